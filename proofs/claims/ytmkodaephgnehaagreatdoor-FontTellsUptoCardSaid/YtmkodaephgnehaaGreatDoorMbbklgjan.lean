/- Texts that go together: Plain03B Plain03C Plain03D Plain03E Plain03F Plain03G Plain17 Plain17B Plain55 SOct LxA SLex LxB LxC LxD LxE LxF LxG LxH LxI SRef03 LxR SHead SRef17 HdA LxS LxT LxU LxV LxW LxX LxY LxZ LxAA LxAB LxAC LxAD SLaw03 LxAE HdB HdC SLaw17 HdD SRef55 ScA ObJ MkB SWrite ObK ObL ObM ObN ObO MkC Plain05C MkD MkE MkF EngZ Plain05D MkG Plain19 KdA DcA SDocs SRef19 DcB DcC SSlcI SlcI DcD DcE SFont SRef47. -/
import Derived.Lib.IndexMore
import Derived.Lib.LastIndexLaws
import Derived.Test.YtmkodaephgnehaaGreatDoorRows
import Derived.Lib.Overlaps
import Derived.Laws.Externs
import Derived.Test.YtmkodaephgnehaaGreatDoorMejpblbll
import Derived.Test.YtmkodaephgnehaaGreatDoorMhlgoppdo
set_option linter.defProp false
set_option linter.unusedSimpArgs false
set_option linter.unusedVariables false
set_option maxRecDepth 20000
open Go.Proofs.Tryz (prog)
namespace Go.Proofs.YtmkodaephgnehaaGreatDoor
section
open Go
namespace Lx
open Oc
structure Tok where
 k:Int
 a:Int
 t:Int
 n:Int
 s:List UInt8
 deriving DecidableEq
def none_:Tok:=⟨0,0,0,0,[]⟩
def refused (e:Int):Tok×Int:=(none_,e)
def told (k a t:Int)(x:List UInt8)(most:Int):Tok×Int:=if most < (x.length:Int) then refused 5 else (⟨k,a,t,0,x⟩,0)
def runF:List UInt8→Nat
|[]=>0
|c::t=>if regular c then 1+runF t else 0
def run (s:List UInt8)(i:Nat):Nat:=i+runF (s.drop i)
def cut (s:List UInt8)(i j:Nat):List UInt8:=(s.drop i).take (j - i)
def nameF:List UInt8→Option (List UInt8)
|[]=>some []
|c::t=>
  if c=35 then match t with
  |a::b::t=>if digit a < 0∨digit b < 0∨16*digit a+digit b=0 then none else (nameF t).map (byte (digit a) (digit b)::·)
  |_=>none
  else (nameF t).map (c::·)
def name (s:List UInt8)(at_:Nat):Tok×Int:=
 match nameF (cut s (at_+1) (run s (at_+1))) with
|none=>refused 3
|some x=>told 4 at_ (run s (at_+1)) x 127
def oct (c:UInt8):Bool:=decide (48≤c.toNat)&&decide (c.toNat≤55)
def octF:Nat→Nat→List UInt8→Nat×Nat
|0,n,_=>(n,0)
|_+1,n,[]=>(n,0)
|m+1,n,c::t=>if oct c then ((octF m (8*n+(c.toNat - 48)) t).1,(octF m (8*n+(c.toNat - 48)) t).2+1) else (n,0)
def escL (c:UInt8):Option UInt8:=if c=110 then some 10 else if c=114 then some 13 else if c=116 then some 9 else if c=98 then some 8 else if c=102 then some 12 else none
def escF:List UInt8→List UInt8×Nat
|[]=>([],0)
|c::t=>match escL c with
 |some b=>([b],1)
 |none=>if eol c then ([],lineF (c::t)) else if 0 < (octF 3 0 (c::t)).2 then ([UInt8.ofNat (octF 3 0 (c::t)).1],(octF 3 0 (c::t)).2) else ([c],1)
def textG:Nat→Nat→List UInt8→Option (List UInt8×Nat)
|_,_,[]=>none
|k+1,o,_::t=>(textG k o t).map fun r=>(r.1,r.2+1)
|0,o,c::t=>
  if eol c then (textG (lineF (c::t) - 1) o t).map fun r=>(10::r.1,r.2+1)
  else if c=92 then if t=[] then none else (textG (escF t).2 o t).map fun r=>((escF t).1++r.1,r.2+1)
  else if c=40 then (textG 0 (o+1) t).map fun r=>(c::r.1,r.2+1)
  else if c=41 then if o≤1 then some ([],1) else (textG 0 (o - 1) t).map fun r=>(c::r.1,r.2+1)
  else (textG 0 o t).map fun r=>(c::r.1,r.2+1)
def text (s:List UInt8)(at_:Nat):Tok×Int:=
 match textG 0 1 (s.drop (at_+1)) with
|none=>refused 4
|some r=>told 3 at_ (at_+1+r.2:Nat) r.1 32767
def hexF:Int→List UInt8→(List UInt8×Nat) ⊕ Int
|_,[]=>.inr 4
|h,c::t=>
  if c=62 then .inl (if 0≤h then [byte h 0] else [],1)
  else if white c then match hexF h t with|.inl r=>.inl (r.1,r.2+1)|.inr e=>.inr e
  else if digit c < 0 then .inr 3
  else if h < 0 then match hexF (digit c) t with|.inl r=>.inl (r.1,r.2+1)|.inr e=>.inr e
  else match hexF (-1) t with|.inl r=>.inl (byte h (digit c)::r.1,r.2+1)|.inr e=>.inr e
def hex (s:List UInt8)(at_:Nat):Tok×Int:=
 match hexF (-1) (s.drop (at_+1)) with
|.inr e=>refused e
|.inl r=>told 3 at_ (at_+1+r.2:Nat) r.1 32767
def sgn (c:UInt8):Bool:=decide (c=43)||decide (c=45)
def dig (c:UInt8):Bool:=decide (48≤c.toNat)&&decide (c.toNat≤57)
def unsign:List UInt8→List UInt8
|[]=>[]
|c::t=>if sgn c then t else c::t
def intForm (t:List UInt8):Bool:=!(unsign t).isEmpty&&(unsign t).all dig
def val (n:Nat)(l:List UInt8):Nat:=l.foldl (fun n c=>10*n+(c.toNat - 48)) n
def whole (t:List UInt8):Int×Int:=
 if 2147483647 < val 0 (unsign t) then (0,2) else (if t.head?=some 45 then -(val 0 (unsign t):Int) else (val 0 (unsign t):Int),0)
def wordT (t:List UInt8)(a b:Int):Tok×Int:=
 if intForm t then (if (whole t).2≠0 then refused (whole t).2 else (⟨1,a,b,(whole t).1,[]⟩,0))
 else if t.contains 46∧(Fx.read t).2=0 then (⟨2,a,b,(Fx.read t).1,[]⟩,0)
 else if t.contains 46∧(Fx.read t).2=2 then refused 2
 else told 5 a b t 127
def word (s:List UInt8)(at_:Nat):Tok×Int:=wordT (cut s at_ (run s at_)) at_ (run s at_)
def mark (s:List UInt8)(at_ n:Nat):Tok×Int:=(⟨6,at_,(at_+n:Nat),0,cut s at_ (at_+n)⟩,0)
def token (s:List UInt8)(a:Nat):Tok×Int:=
 match s.drop a with
|[]=>(⟨0,a,a,0,[]⟩,0)
|c::t=>
  if c=91∨c=93∨c=123∨c=125 then mark s a 1
  else if c=60 then (if t.head?=some c then mark s a 2 else hex s a)
  else if c=62 then (if t.head?=some c then mark s a 2 else refused 3)
  else if c=47 then name s a
  else if c=40 then text s a
  else if c=41 then refused 3
  else word s a
def next (s:List UInt8)(at_:Int):Tok×Int:=if at_ < 0∨(s.length:Int) < at_ then refused 1 else token s (skip s at_.toNat)
end Lx
end
end Go.Proofs.YtmkodaephgnehaaGreatDoor








namespace Go.Proofs.YtmkodaephgnehaaGreatDoor
section
open Eng
def S_octet_Digit (t0:Value)(w:World)(K:Ending→World→Prop):Prop:=
 DoX prog (mBin .geq 5 t0 (.int .u8 48)) w (pk K) fun t5 w=>
 GDo t5 true (fun E=>E t0 w) w fun t7 w=>
 GDo t5 true (fun E=>DoX prog (mBin .leq 5 t7 (.int .u8 57)) w (pk K) E) w fun t8 w=>
 DoX prog (mPick t5 t8 (.bool false)) w (pk K) fun t9 w=>
 IfX t9 (DoX prog (mBin .sub 5 t0 (.int .u8 48)) w (pk K) fun t11 w=>
 DoX prog (mConv 5 3 t11) w (pk K) fun t12 w=>
 K (.returned t12) w) (DoX prog (mBin .geq 5 t0 (.int .u8 65)) w (pk K) fun t15 w=>
 GDo t15 true (fun E=>E t0 w) w fun t17 w=>
 GDo t15 true (fun E=>DoX prog (mBin .leq 5 t17 (.int .u8 70)) w (pk K) E) w fun t18 w=>
 DoX prog (mPick t15 t18 (.bool false)) w (pk K) fun t19 w=>
 IfX t19 (DoX prog (mBin .sub 5 t0 (.int .u8 65)) w (pk K) fun t21 w=>
 DoX prog (mConv 5 3 t21) w (pk K) fun t22 w=>
 DoX prog (mBin .add 3 t22 (.int .i64 10)) w (pk K) fun t23 w=>
 K (.returned t23) w) (DoX prog (mBin .geq 5 t0 (.int .u8 97)) w (pk K) fun t26 w=>
 GDo t26 true (fun E=>E t0 w) w fun t28 w=>
 GDo t26 true (fun E=>DoX prog (mBin .leq 5 t28 (.int .u8 102)) w (pk K) E) w fun t29 w=>
 DoX prog (mPick t26 t29 (.bool false)) w (pk K) fun t30 w=>
 IfX t30 (DoX prog (mBin .sub 5 t0 (.int .u8 97)) w (pk K) fun t32 w=>
 DoX prog (mConv 5 3 t32) w (pk K) fun t33 w=>
 DoX prog (mBin .add 3 t33 (.int .i64 10)) w (pk K) fun t34 w=>
 K (.returned t34) w) (K (.returned (.int .i64 (-1))) w)))
theorem S_octet_Digit_eq (t0:Value)(w:World)(K:Ending→World→Prop):wpX prog 35 [] [] none (bodyOf Tryz.f55) (topQ prog [.tmp 2] K) (startX [t0]) [] w=S_octet_Digit t0 w K:=by kernel_rfl
theorem S_octet_Digit_ok {t0:Value}{w:World}{K:Ending→World→Prop}(h:S_octet_Digit t0 w K):Calls prog 55 #[t0] w K:=
 calls_of_wpX Tryz.func55 rfl rfl rfl rfl (Eq.mpr (S_octet_Digit_eq t0 w K) h)
end
section
open Eng Go.RowKit
 attribute [local congr] g_congr in
theorem digit_ret (c:UInt8)(w:World):Ret prog 55 #[.int .u8 c.toNat] w (fun v w'=>v=.int .i64 (Lx.digit c)∧w=w'):=by
  refine ret_of fun K hK=>S_octet_Digit_ok ?_;unfold S_octet_Digit;have h256:=c.toNat_lt;have conv:∀{n:Int} {PK K},0≤n→n≤255→DoX prog (mConv 5 3 (.int .u8 n)) w PK K=K (.int .i64 n) w:=by
   intro n PK K h0 h1;rw[c_int (show (Tryz.prog.underlying 5).isSome=true by kernel_rfl) Tryz.underlying3,wrap64_id (by omega) (by omega)]
  simp +contextual only[rs,gs];by_cases h1:48≤c.toNat∧c.toNat≤57
  ·have hb:(decide ((48:Int)≤(c.toNat:Int))&&decide ((c.toNat:Int)≤57))=true:=by simp;omega
   simp only[hb,i_t];rw[wrap8_id (by omega) (by omega),conv (by omega) (by omega)];exact hK _ _ ⟨by rw[Lx.digit,if_pos h1],rfl⟩
  have hb:(decide ((48:Int)≤(c.toNat:Int))&&decide ((c.toNat:Int)≤57))=false:=by
   rw[Bool.and_eq_false_iff,decide_eq_false_iff_not,decide_eq_false_iff_not];omega
  simp only[hb,i_f];by_cases h2:65≤c.toNat∧c.toNat≤70
  ·have hb:(decide ((65:Int)≤(c.toNat:Int))&&decide ((c.toNat:Int)≤70))=true:=by simp;omega
   simp only[hb,i_t];rw[wrap8_id (by omega) (by omega),conv (by omega) (by omega),b_add,wrap64_id (by omega) (by omega)];exact hK _ _ ⟨by rw[Lx.digit,if_neg h1,if_pos h2],rfl⟩
  have hb:(decide ((65:Int)≤(c.toNat:Int))&&decide ((c.toNat:Int)≤70))=false:=by
   rw[Bool.and_eq_false_iff,decide_eq_false_iff_not,decide_eq_false_iff_not];omega
  simp only[hb,i_f];by_cases h3:97≤c.toNat∧c.toNat≤102
  ·have hb:(decide ((97:Int)≤(c.toNat:Int))&&decide ((c.toNat:Int)≤102))=true:=by simp;omega
   simp only[hb,i_t];rw[wrap8_id (by omega) (by omega),conv (by omega) (by omega),b_add,wrap64_id (by omega) (by omega)];exact hK _ _ ⟨by rw[Lx.digit,if_neg h1,if_neg h2,if_pos h3],rfl⟩
  have hb:(decide ((97:Int)≤(c.toNat:Int))&&decide ((c.toNat:Int)≤102))=false:=by
   rw[Bool.and_eq_false_iff,decide_eq_false_iff_not,decide_eq_false_iff_not];omega
  simp only[hb,i_f];exact hK _ _ ⟨by rw[Lx.digit,if_neg h1,if_neg h2,if_neg h3],rfl⟩
end
end Go.Proofs.YtmkodaephgnehaaGreatDoor

namespace Go.Proofs.YtmkodaephgnehaaGreatDoor
section
open Eng Go.RowKit
def tokC (x:Lx.Tok):List Value:=[.int .i64 x.k,.int .i64 x.a,.int .i64 x.t,.int .i64 x.n,.string ⟨x.s.toArray⟩]
section
variable {w:World}{PK:PKT}{K:VWP}{S:Nat→Prop}{w0:World}{L:List Ent}
end
end
section
open Eng Go.RowKit
theorem c_64 {w:World}{PK:PKT}{K:VWP}{n:Int}(h0:0≤n)(h1:n≤255):DoX prog (mConv 5 3 (.int .u8 n)) w PK K=K (.int .i64 n) w:=by
 rw[c_int (show (Tryz.prog.underlying 5).isSome=true by kernel_rfl) Tryz.underlying3,wrap64_id (by omega) (by omega)]
end
end Go.Proofs.YtmkodaephgnehaaGreatDoor









namespace Go.Proofs.YtmkodaephgnehaaGreatDoor
section
open Eng
def S_foliantref10_Same_0 (t0 t1 t5:Value)(w:World)(N1:List Value→World→Prop)(K:Ending→World→Prop):Prop:=
 DoX prog (mB .len #[29] 3 #[false] #[t0]) w (pk K) fun t13 w=>
 DoX prog (mBin .lss 3 t5 t13) w (pk K) fun t14 w=>
 GDo t14 true (fun E=>E t5 w) w fun t16 w=>
 GDo t14 true (fun E=>E t1 w) w fun t17 w=>
 GDo t14 true (fun E=>DoX prog (mB .len #[29] 3 #[false] #[t17]) w (pk K) E) w fun t18 w=>
 GDo t14 true (fun E=>DoX prog (mBin .lss 3 t16 t18) w (pk K) E) w fun t19 w=>
 DoX prog (mPick t14 t19 (.bool false)) w (pk K) fun t20 w=>
 IfX t20 (QuietX w (fun C2=>
 QDo prog C2 (mIA 29 t0 t5) fun t25=>
 QDo prog C2 (mLoad 3 t25) fun t26=>
 QDo prog C2 (mIA 29 t1 t5) fun t29=>
 QDo prog C2 (mLoad 3 t29) fun t30=>
 QDo prog C2 (mEq .neq 3 (.tmp 26) (.tmp 30) t26 t30) fun t31=>
 ∀w,C2 w →
 IfX t31 (K (.returned (.bool false)) w) (DoX prog (mBin .add 3 t5 (.int .i64 1)) w (pk K) fun t22 w=>
 N1 [t22] w))) (K (.returned (.bool true)) w)
def S_foliantref10_Same (t0 t1:Value)(w:World)(K:Ending→World→Prop):Prop:=
 DoX prog (mB .len #[29] 3 #[false] #[t0]) w (pk K) fun t7 w=>
 DoX prog (mB .len #[29] 3 #[false] #[t1]) w (pk K) fun t9 w=>
 DoX prog (mEq .neq 3 (.tmp 7) (.tmp 9) t7 t9) w (pk K) fun t10 w=>
 IfX t10 (K (.returned (.bool false)) w) (LoopX [(.int .i64 0)] w (fun vs1 w N1=>∀_:Sg,S_foliantref10_Same_0 t0 t1 (vs1.getD 0 undef) w N1 K))
theorem S_foliantref10_Same_eq (t0 t1:Value)(w:World)(K:Ending→World→Prop):wpX prog 32 [] [(4,[5])] none (bodyOf Tryz.f9) (topQ prog [.tmp 4] K) (startX [t0,t1]) [] w=S_foliantref10_Same t0 t1 w K:=by kernel_rfl
theorem S_foliantref10_Same_ok {t0 t1:Value}{w:World}{K:Ending→World→Prop}(h:S_foliantref10_Same t0 t1 w K):Calls prog 9 #[t0,t1] w K:=
 calls_of_wpX Tryz.func9 rfl rfl rfl rfl (Eq.mpr (S_foliantref10_Same_eq t0 t1 w K) h)
end
end Go.Proofs.YtmkodaephgnehaaGreatDoor

namespace Go.Proofs.YtmkodaephgnehaaGreatDoor
section
open Eng Go.RowKit
theorem all_drop {s:List UInt8}{p:UInt8→Bool}{i:Nat}(h:i < s.length):(s.drop i).all p=(p s[i]&&(s.drop (i+1)).all p):=by
 rw[Lx.drop_cons h,List.all_cons]
end
end Go.Proofs.YtmkodaephgnehaaGreatDoor






namespace Go.Proofs.YtmkodaephgnehaaGreatDoor
section
open Eng Go.RowKit
theorem draw {w:World}{F:World→Prop}(h:F w.drew):DrawX w F:=⟨h⟩
end
end Go.Proofs.YtmkodaephgnehaaGreatDoor


namespace Go.Proofs.YtmkodaephgnehaaGreatDoor
section
open Eng Go.RowKit
theorem flat_get:∀(l:List Lx.Tok) (k j:Nat) (hk:k < l.length),j < 5→(l.flatMap tokC)[k*5+j]?=(tokC l[k])[j]?
|x::l,0,j,_,hj=>by
  rw[List.flatMap_cons,List.getElem?_append_left (by simpa[tokC] using hj)];simp
|x::l,k+1,j,hk,hj=>by
  have h5:(tokC x).length=5:=rfl;rw[List.flatMap_cons,List.getElem?_append_right (by rw[h5];omega),h5,show (k+1)*5+j - 5=k*5+j by omega];rw[flat_get l k j (by simpa using hk) hj];simp
end
end Go.Proofs.YtmkodaephgnehaaGreatDoor








namespace Go.Proofs.YtmkodaephgnehaaGreatDoor
section
open Eng Go.RowKit
section
variable {w:World}{PK:PKT}{K:VWP}{S:Nat→Prop}{w0:World}{L:List Ent}
end
abbrev StrRow (v:Value)(l:List (List UInt8)):Ent:=.row 9 1 v l.length (strsV l)
end
section
open Eng Go.RowKit
theorem kid_at {A:Nat→Prop}{wb:World}{o:Ob}{vk vc:Value}{cs:List Value}(h:ObAt A wb o vk vc cs){i:Nat}(hi:i < o.kids.length) :
  ∃v p,OV A wb v o.kids[i]∧∀W,Kept A wb W→(mIA 46 vc (.int .i64 (i:Int))).run prog W=.ok (.value (.pointer (some p))) W∧(mLoad 48 (.pointer (some p))).run prog W=.ok (.value v) W:=by
 obtain⟨b,off,cap,rfl,_⟩:=sl_open h.kids.1 (by omega);obtain⟨a,hl,hov,hget⟩:=OVs.get _ _ i hi h.all;refine⟨.agg a.toArray,⟨b,off+i*6,none⟩,hov,fun W hk=>⟨?_,?_⟩⟩
 ·have:=run_ia (P:=prog) (T:=46) (b:=b) (off:=off) (cap:=cap) (n:=o.kids.length) (k:=.i64) (i:=(i:Int)) (w:=W) Tryz.underlying46 szOb (by omega) (by omega);rw[Int.toNat_natCast] at this;exact this
 ·obtain⟨b',off',cap',he,hc⟩:=sl_open (h.kept hk).kids.1 (by omega);cases he;refine run_load_at (v:=.agg a.toArray) (AtV.agg aggOb hl fun j v hj=>?_);rw[Nat.add_assoc];exact hc _ _ (hget j v hj)
theorem strsV_one' {l:List (List UInt8)}:∀x∈strsV l,x.oneCell'=true:=by
 intro x hx;obtain⟨y,_,rfl⟩:=List.mem_map.1 hx;rfl
section
variable {w:World}{PK:PKT}{K:VWP}{S:Nat→Prop}{w0:World}{L:List Ent}
end
end
section
open Eng Go.RowKit
theorem Eng.Mem.le.trans {M N O:Mem}(h:M.le N)(k:N.le O):M.le O:=Mem.le_trans h k
theorem strsV_one5 {l:List (List UInt8)}:∀x∈strsV l,x.oneCell'=true:=by
 intro x hx;obtain⟨y,_,rfl⟩:=List.mem_map.1 hx;rfl
theorem urow_one {w:World}{T:TypeId}{sz:Nat}{v:Value}{n:Nat}{xs:List Value}(h:(Ent.urow T sz v n xs).is w):v.oneCell'=true:=by
 rcases (show w.ownsRow 0 T sz v n xs from h).2 with ⟨rfl,_⟩|⟨g,cap,cur,rfl,_⟩<;>rfl
theorem ovs_one {A:Nat→Prop}{w:World}:∀{os:List Ob} {cs:List Value},OVs A w cs os→∀x∈cs,x.oneCell'=true
|[],cs,h=>by rw[OVs] at h;subst h;intro x hx;cases hx
|o::os,cs,h=>by
  rw[OVs] at h;obtain⟨a,rest,rfl,hl,h1,h2⟩:=h;intro x hx;rcases List.mem_append.1 hx with hx|hx
  ·obtain⟨vk,vc,cs',he,hk⟩:=h1.open;have e:a.toArray=(obC o vk vc).toArray:=by injection he
   have e:a=obC o vk vc:=by simpa using congrArg Array.toList e
   subst e;exact obC_one o hk.keys.one hk.kids.one x hx
  ·exact ovs_one h2 x hx
theorem ovs_app {A:Nat→Prop}{w:World}:∀{os ps:List Ob} {cs ds:List Value},OVs A w cs os→OVs A w ds ps→OVs A w (cs++ds) (os++ps)
|[],ps,cs,ds,h,k=>by rw[OVs] at h;subst h;simpa using k
|o::os,ps,cs,ds,h,k=>by
  rw[OVs] at h;obtain⟨a,rest,rfl,hl,h1,h2⟩:=h;rw[List.cons_append,OVs];exact⟨a,rest++ds,by simp,hl,h1,ovs_app h2 k⟩
theorem ovs_1 {A:Nat→Prop}{w:World}{o:Ob}{vk vc:Value}(h:OV A w (obV o vk vc) o):OVs A w (obC o vk vc) [o]:=by
 rw[OVs];exact⟨obC o vk vc,[],by simp,rfl,h,OVs.nil⟩
theorem ObAt.le {M N:Mem}{o:Ob}{vk vc:Value}{cs:List Value}(hl:M.le N)(h:ObAt M.A M.w o vk vc cs):ObAt N.A N.w o vk vc cs:=⟨h.keys.le hl,h.kids.le hl,h.all.le hl⟩
theorem obAt_mk {M:Mem}{k n g:Int}{s:List UInt8}{keys:List (List UInt8)}{kids:List Ob}{vk vc:Value}{cs:List Value}(h1:SlA M.A M.w vk 1 keys.length (strsV keys))(h2:SlA M.A M.w vc 6 kids.length cs)(h3:OVs M.A M.w cs kids):ObAt M.A M.w (.mk k n g s keys kids) vk vc cs:=⟨h1,h2,h3⟩
theorem ob0_ov (M:Mem):OV M.A M.w (obV Vl.ob0 (.slice none 0 0) (.slice none 0 0)) Vl.ob0:=(obAt_mk (M:=M) (keys:=[]) (kids:=[]) (SlA.nil _ _ _ _) (SlA.nil _ _ _ _) OVs.nil).ov
theorem clone1_ret (o:Ob){vk vc:Value}(hk:vk.oneCell'=true)(hc:vc.oneCell'=true)(w:World):Ret prog 115 #[obV o vk vc] w (fun v w'=>v=obV o vk vc∧Below w.heap.size w w'):=by
 refine ret_of fun K hK=>S_value_Clone_1_ok ?_;unfold S_value_Clone_1;refine o_obb o hk hc (Own.start w) fun b w1 ho=>?_;refine o_oba ho fun b2 w2 ho=>?_;rw[ob_v ho 1 rfl];refine ob_put 0 hk hc ho rfl fun w3 ho=>?_;exact ret_v1 (rv_cell (ho.agg 0 rfl aggOb)) (hK _ _ ⟨rfl,ho.done⟩)
theorem clone1_plain:plainB prog 115=true:=by kernel_rfl
abbrev cloneF:Value:=.func (.func 115) #[] #[]
theorem changed_ret (n:Nat):∀(o:Ob) (v:Value) (M:Mem) (w:World),o.wt≤n→o.wt≤100000000000→M.has w→OV M.A M.w v o→RetM prog 114 #[v,cloneF] M w (fun v' N=>OV N.A N.w v' o):=by
 induction n with
|zero=>intro o v M w h;have:=o.wt_pos;omega
|succ n ih=>
 intro o v M w hn hw hM hv;obtain⟨vk,vc,cs,rfl,ha⟩:=hv.open;have hww:Ob.wts o.kids≤100000000000:=by cases o;rw[Ob.wt] at hw;simp only[Ob.kids];omega
 have hkt:Pl.tot o.keys≤100000000000:=by cases o;rw[Ob.wt] at hw;simp only[Ob.keys];omega
 have hlk:=Ob.len_wts o.kids;have hkl:=Pl.length_tot o.keys;refine retM_of hM fun K hK=>S_value_changed_ok ?_;unfold S_value_changed;refine o_obb o ha.keys.one ha.kids.one (OwnS.memS hM) fun b w1 ho=>?_;refine o_oba ho fun b4 w2 ho=>?_;rw[ob_v ho 1 rfl];refine c_val clone1_plain (c_below ho (R:=fun v=>v=obV o vk vc) (clone1_ret o ha.keys.one ha.kids.one w2) ?_);rintro _ w3 rfl ho;refine ob_put 1 ha.keys.one ha.kids.one ho rfl fun w4 ho=>?_;rw[fa_o4,ob_keys ho 1 rfl];refine c_ret (sclone_s_ret vk _ _ w4 (ha.keys.now (ho.hasM 2 rfl)) strsV_one5 (by omega)) fun vk' w5 hnew=>?_;have ho:=ho.join hnew;have ho:OwnS M.A w w5 [.urow 9 1 vk' o.keys.length (strsV o.keys),obE b4 ob0 (.slice none 0 0) (.slice none 0 0),obE b o vk vc,.mem M]:=ho;have hk1:vk'.oneCell'=true:=urow_one (ho.at_ 0 rfl);rw[fa_o4];refine o_store 2 ho rfl (by kernel_rfl) hk1 (show 0+4 < 6 by omega) fun w6 ho=>?_;have ho:OwnS M.A w w6 [.urow 9 1 vk' o.keys.length (strsV o.keys),obE b4 ob0 (.slice none 0 0) (.slice none 0 0),obE b o vk' vc,.mem M]:=ho;obtain⟨N,hMN,hkeys,ho⟩:=ho.freezeU 2 rfl;have ho:OwnS M.A w w6 [obE b4 ob0 (.slice none 0 0) (.slice none 0 0),obE b o vk' vc,.mem N]:=ho;refine join fun J hJ=>?_;have fin:∀(W:World) (N':Mem) (vc':Value) (cs':List Value),OwnS M.A w W [obE b4 ob0 (.slice none 0 0) (.slice none 0 0),obE b o vk' vc',.mem N']→N.le N'→vc'.oneCell'=true→SlA N'.A N'.w vc' 6 o.kids.length cs'→OVs N'.A N'.w cs' o.kids→J [] W:=by
  intro W N' vc' cs' ho hle hc1 h1 h2;refine hJ _ _ fun _=>?_;unfold S_value_changed_1;rw[ob_v ho 1 rfl];refine ob_put 0 hk1 hc1 ho rfl fun w7 ho=>?_;refine ret_v1 (rv_cell (ho.agg 0 rfl aggOb)) (hK _ _ N' _ 2 ho rfl (hMN.trans hle) ?_);exact ObAt.ov (⟨hkeys.le hle,h1,h2⟩:ObAt N'.A N'.w o vk' vc' cs')
 have hav:=ha.le hMN;rw[fa_o5,ob_kids ho 1 rfl];obtain⟨a,cap,rfl,hnil⟩:∃a cap,vc=.slice a o.kids.length cap∧(a=none→o.kids.length=0):=by
  obtain⟨⟨_,a,cap,e,h1,_⟩,_⟩:=ha.kids;exact⟨a,cap,e,h1⟩
 rw[n_nilS Tryz.underlying46];cases a with
|none=>
  simp only[Option.isNone_none,Bool.not_true,i_f];exact fin _ N _ _ ho N.le_refl rfl hav.kids hav.all
|some p=>
  simp only[Option.isNone_some,Bool.not_false,i_t];rw[fa_o5,ob_kids ho 1 rfl,sl_len_any Tryz.underlying46];refine o_makeN (sz:=6) (bytes:=88) Tryz.underlying46 (by kernel_rfl) (by omega) (by omega) ho fun g w7 zs hzs ho=>?_;have ho:=ho.toU 6 o.kids.length o.kids.length hzs (Nat.le_refl _) (by omega);rw[List.take_of_length_le (by omega)] at ho;rw[fa_o5,ob_kids ho 2 rfl,sl_len_any Tryz.underlying46];refine loop (fun vs W=>∃(i:Nat) (N':Mem) (cs' zs':List Value),vs=[.int .i64 i]∧i≤o.kids.length∧N.le N'∧OVs N'.A N'.w cs' (o.kids.take i)∧cs'.length=i*6 ∧
    OwnS M.A w W [.urow 48 6 (.slice (some ⟨g,0,none⟩) o.kids.length o.kids.length) o.kids.length (cs'++zs'),obE b4 ob0 (.slice none 0 0) (.slice none 0 0),obE b o vk' (.slice (some p) o.kids.length cap),.mem N']) (fun vs _=>o.kids.length - n0 vs)
   ⟨0,N,[],zs,rfl,by omega,N.le_refl,OVs.nil,rfl,ho⟩ ?_
  clear ho;rintro vs w8 ⟨i,N',cs',zs',rfl,hi,hle,hcs',hl',ho⟩ _;simp only[S_value_changed_0,gd,rs];have hrl:=(show w8.ownsRow 0 48 6 _ _ (cs'++zs') from ho.at_ 0 rfl).1;rw[List.length_append,hl'] at hrl;by_cases hlt:(i:Int) < (o.kids.length:Int)
  ·have hi':i < o.kids.length:=by omega
   simp only[hlt,decide_true,i_t];obtain⟨x,q,hx,hrx⟩:=kid_at (hav.le hle) hi';obtain⟨r1,r2⟩:=hrx w8 (ho.hasM 3 rfl);refine do_eq r1 |>.mpr (do_eq r2 |>.mpr ?_);obtain⟨xk,xc,xcs,rfl,hxa⟩:=hx.open;refine o_oba ho fun b7 w9 ho=>?_;refine ob_put 0 hxa.keys.one hxa.kids.one ho rfl fun w10 ho=>?_;rw[ob_v ho 0 rfl];have hkw:=kid_wt hi';refine c_mem ho 4 rfl (ih _ _ N' w10 (by omega) (by omega) (ho.hasM 4 rfl) hx) fun y N2 w11 hle2 hy ho=>?_;obtain⟨yk,yc,ycs,rfl,hya⟩:=hy.open;have ho:OwnS M.A w w11 [.urow 48 6 (.slice (some ⟨g,0,none⟩) o.kids.length o.kids.length) o.kids.length (cs'++zs'),obE b4 ob0 (.slice none 0 0) (.slice none 0 0),obE b o vk' (.slice (some p) o.kids.length cap),.mem N2]:=ho.tail;refine do_eq (run_ia Tryz.underlying46 szOb (by omega) (by omega)) |>.mpr ?_;rw[Int.toNat_natCast,Nat.zero_add];refine o_storeU 0 ho rfl (u:=obV o.kids[i] yk yc) (new:=obC o.kids[i] yk yc) rfl szOb (obC_one _ hya.keys.one hya.kids.one) (by show i*6+6≤_;omega) fun w12 ho=>?_;rw[wrap64_id (by omega) (by omega)];refine nextX ⟨i+1,N2,cs'++obC o.kids[i] yk yc,zs'.drop 6,rfl,by omega,hle.trans hle2,?_,?_,?_⟩ (by simp[n0,RowKit.intOf];omega)
   ·rw[List.take_succ_eq_append_getElem hi'];exact ovs_app (hcs'.le hle2) (ovs_1 hy)
   ·rw[List.length_append,hl'];show i*6+6=_;omega
   ·have e:(cs'++zs').take (i*6)++obC o.kids[i] yk yc++(cs'++zs').drop (i*6+(obC o.kids[i] yk yc).length)=cs'++obC o.kids[i] yk yc++zs'.drop 6:=by
     rw[List.take_left' hl',List.drop_append,List.drop_eq_nil_of_le (by rw[hl'];omega),List.nil_append,hl']
     congr 2
     show i*6+6 - i*6=6;omega
    rw[e] at ho;exact ho
  ·have hi':i=o.kids.length:=by omega
   subst hi';simp only[hlt,decide_false,i_f];have hz:zs'=[]:=List.eq_nil_of_length_eq_zero (by omega);subst hz;rw[List.append_nil,List.take_of_length_le (Nat.le_refl _)] at *;rw[fa_o5];refine o_store 2 ho rfl (by kernel_rfl) rfl (show 0+5 < 6 by omega) fun w9 ho=>?_;obtain⟨N2,hle2,hrow,ho⟩:=OwnS.freezeU (L:=[obE b4 ob0 (.slice none 0 0) (.slice none 0 0),obE b o vk' (.slice (some ⟨g,0,none⟩) o.kids.length o.kids.length),.mem N']) ho 2 rfl;exact fin _ N2 _ _ ho (hle.trans hle2) rfl hrow (hcs'.le hle2)
theorem clone_ret (o:Ob)(v:Value)(M:Mem)(w:World)(hw:o.wt≤100000000000)(hM:M.has w)(hv:OV M.A M.w v o):RetM prog 82 #[v] M w (fun v' N=>OV N.A N.w v' o):=by
 obtain⟨vk,vc,cs,rfl,ha⟩:=hv.open;refine retM_of hM fun K hK=>S_value_Clone_ok ?_;unfold S_value_Clone;refine o_obb o ha.keys.one ha.kids.one (OwnS.memS hM) fun b w1 ho=>?_;refine o_oba ho fun b4 w2 ho=>?_;rw[ob_v ho 1 rfl];refine c_mem ho 2 rfl (changed_ret o.wt o _ M w2 (Nat.le_refl _) hw (ho.hasM 2 rfl) hv) fun y N w3 hle hy ho=>?_;obtain⟨yk,yc,ycs,rfl,hya⟩:=hy.open;refine ob_put 0 hya.keys.one hya.kids.one ho rfl fun w4 ho=>?_;exact ret_v1 (rv_cell (ho.agg 0 rfl aggOb)) (hK _ _ N _ 2 ho rfl hle hy)
end
end Go.Proofs.YtmkodaephgnehaaGreatDoor



namespace Go.Proofs.YtmkodaephgnehaaGreatDoor
section
open Eng Go.RowKit
theorem n_err {xo yo:Operand}{a b:Int}{w:World}{PK:PKT}{K:VWP}:DoX prog (mEq .neq 30 xo yo (.int .i64 a) (.int .i64 b)) w PK K=K (.bool (decide (a≠b))) w:=n_int
end
end Go.Proofs.YtmkodaephgnehaaGreatDoor

namespace Go.Proofs.YtmkodaephgnehaaGreatDoor
section
open Eng Go.RowKit
abbrev nilS:Value:=.slice none 0 0
abbrev ob1 (k n g:Int)(s:List UInt8):Ob:=.mk k n g s [] []
theorem ov_plain {A:Nat→Prop}{w:World}(k n g:Int)(s:List UInt8):OV A w (obV (ob1 k n g s) nilS nilS) (ob1 k n g s):=ObAt.ov (cs:=[]) ⟨SlA.nil _ _ _ _,SlA.nil _ _ _ _,OVs.nil⟩
theorem ovs_cons {A:Nat→Prop}{w:World}{o:Ob}{vk vc:Value}{rest:List Value}{os:List Ob}(h:OV A w (obV o vk vc) o)(hr:OVs A w rest os):OVs A w (obC o vk vc++rest) (o::os):=by
 rw[OVs];exact⟨obC o vk vc,rest,rfl,rfl,h,hr⟩
section
variable {w:World}{S:Nat→Prop}{w0:World}{L:List Ent}
theorem ret_ob {K:Ending→World→Prop}{b:Nat}{o:Ob}{vk vc:Value}(ho:OwnS S w0 w (obE b o vk vc::L))(k:K (.returned (obV o vk vc)) w):RetX prog [.cell (.pointer (some ⟨b,0,none⟩)) 48] w K:=ret_v1 (rv_cell (ho.agg 0 rfl aggOb)) k
end
def obR (o:Ob)(vk vc:Value)(w:World):VWP:=fun v w'=>v=obV o vk vc∧Below w.heap.size w w'
theorem rnull_ret (w:World):Ret prog 24 #[] w (obR (ob1 0 0 0 []) nilS nilS w):=by
 refine ret_of fun K hK=>S_foliantref05_Null_ok ?_;unfold S_foliantref05_Null;refine o_oba (Own.start w) fun b w1 ho=>?_;have hb:∀{PK:PKT} {K:VWP},DoX prog (mBuild 48 #[]) w1 PK K=K (obV (ob1 0 0 0 []) nilS nilS) w1:=do_eq (by kernel_rfl);rw[hb];refine ob_put 0 rfl rfl ho rfl fun w2 ho=>?_;exact ret_ob ho (hK _ _ ⟨rfl,ho.done⟩)
theorem rkey05_ret (s:List UInt8)(w:World):Ret prog 46 #[.string ⟨s.toArray⟩] w (obR (ob1 5 0 0 s) nilS nilS w):=by
 refine ret_of fun K hK=>S_foliantref05_Key_ok ?_;unfold S_foliantref05_Key;refine o_oba (Own.start w) fun b w1 ho=>?_;have hb:∀{PK:PKT} {K:VWP},DoX prog (mBuild 48 #[(0,(.int .i64 5)),(3,.string ⟨s.toArray⟩)]) w1 PK K=K (obV (ob1 5 0 0 s) nilS nilS) w1:=do_eq (by kernel_rfl);rw[hb];refine ob_put 0 rfl rfl ho rfl fun w2 ho=>?_;exact ret_ob ho (hK _ _ ⟨rfl,ho.done⟩)
theorem rref05_ret (n g:Int)(w:World):Ret prog 47 #[.int .i64 n,.int .i64 g] w (obR (ob1 8 n g []) nilS nilS w):=by
 refine ret_of fun K hK=>S_foliantref05_Ref_ok ?_;unfold S_foliantref05_Ref;refine o_oba (Own.start w) fun b w1 ho=>?_;have hb:∀{PK:PKT} {K:VWP},DoX prog (mBuild 48 #[(0,(.int .i64 8)),(1,.int .i64 n),(2,.int .i64 g)]) w1 PK K=K (obV (ob1 8 n g []) nilS nilS) w1:=do_eq (by kernel_rfl);rw[hb];refine ob_put 0 rfl rfl ho rfl fun w2 ho=>?_;exact ret_ob ho (hK _ _ ⟨rfl,ho.done⟩)
end
section
open Eng Go.RowKit
def getV (v:Value)(b:Bool):Value:=.tuple #[v,.bool b]
def errV (v:Value)(e:Int):Value:=.tuple #[v,.int .i64 e]
section
variable {w:World}{S:Nat→Prop}{w0:World}{L:List Ent}
theorem ret_ob2 {K:Ending→World→Prop}{b:Nat}{o:Ob}{vk vc x:Value}(i:Nat)(ho:OwnS S w0 w L)(hi:L[i]?=some (obE b o vk vc))(k:K (.returned (.tuple #[obV o vk vc,x])) w):RetX prog [.cell (.pointer (some ⟨b,0,none⟩)) 48,.val x] w K:=
 ret_v2 (rv_cell (ho.agg i hi aggOb)) rv_val k
theorem m_ob0 {PK:PKT}{K:VWP}:DoX prog (mBuild 48 #[]) w PK K=K (obV Vl.ob0 nilS nilS) w:=do_eq (by kernel_rfl)
end
theorem vint_ret (n:Int)(w:World):Ret prog 67 #[.int .i64 n] w (obR (ob1 2 n 0 []) nilS nilS w):=by
 refine ret_of fun K hK=>S_value_Int_ok ?_;unfold S_value_Int;refine o_oba (Own.start w) fun b w1 ho=>?_;have hb:∀{PK:PKT} {K:VWP},DoX prog (mBuild 48 #[(0,(.int .i64 2)),(1,.int .i64 n)]) w1 PK K=K (obV (ob1 2 n 0 []) nilS nilS) w1:=do_eq (by kernel_rfl);rw[hb];refine ob_put 0 rfl rfl ho rfl fun w2 ho=>?_;exact ret_ob ho (hK _ _ ⟨rfl,ho.done⟩)
theorem vname_ret (s:List UInt8)(w:World):Ret prog 70 #[.string ⟨s.toArray⟩] w (obR (ob1 5 0 0 s) nilS nilS w):=by
 refine ret_of fun K hK=>S_value_Name_ok ?_;unfold S_value_Name;refine o_oba (Own.start w) fun b w1 ho=>?_;have hb:∀{PK:PKT} {K:VWP},DoX prog (mBuild 48 #[(0,(.int .i64 5)),(3,.string ⟨s.toArray⟩)]) w1 PK K=K (obV (ob1 5 0 0 s) nilS nilS) w1:=do_eq (by kernel_rfl);rw[hb];refine ob_put 0 rfl rfl ho rfl fun w2 ho=>?_;exact ret_ob ho (hK _ _ ⟨rfl,ho.done⟩)
theorem keyed_ret (o:Ob){vk vc:Value}(hk:vk.oneCell'=true)(hc:vc.oneCell'=true)(w:World):Ret prog 110 #[obV o vk vc] w (fun v w'=>v=.bool (Vl.keyed o)∧Below w.heap.size w w'):=by
 refine ret_of fun K hK=>S_value_keyed_ok ?_;unfold S_value_keyed;refine o_obb o hk hc (Own.start w) fun b w1 ho=>?_;rw[fa_o0,ob_k ho 0 rfl];unfold Vl.keyed at hK;by_cases h7:o.k=7
 ·simp only[rs,h7,decide_true,g_un];exact hK _ _ ⟨by simp[h7],ho.done⟩
 ·simp only[rs,h7,decide_false,fa_o0,ob_k ho 0 rfl];exact hK _ _ ⟨by simp[h7],ho.done⟩
theorem vget_ret (o:Ob)(v:Value)(key:List UInt8)(M:Mem)(w:World)(hw:o.wt≤100000000000)(hM:M.has w)(hv:OV M.A M.w v o) :
  RetM prog 99 #[v,.string ⟨key.toArray⟩] M w (fun r N=>∃v',r=getV v' (Vl.get o key).isSome∧OV N.A N.w v' ((Vl.get o key).getD Vl.ob0)):=by
 obtain⟨vk,vc,cs,rfl,ha⟩:=hv.open;have hww:Ob.wts o.kids≤100000000000:=by cases o;rw[Ob.wt] at hw;simp only[Ob.kids];omega
 have hkt:Pl.tot o.keys≤100000000000:=by cases o;rw[Ob.wt] at hw;simp only[Ob.keys];omega
 have hkl:=Pl.length_tot o.keys;have hlk:=Ob.len_wts o.kids;refine retM_of hM fun K hK=>S_value_Get_ok ?_;unfold S_value_Get;refine o_obb o ha.keys.one ha.kids.one (OwnS.memS hM) fun b w1 ho=>?_;refine o_oba ho fun b4 w2 ho=>?_;rw[ob_v ho 1 rfl];refine c_below ho (R:=fun v=>v=.bool (Vl.keyed o)) (keyed_ret o ha.keys.one ha.kids.one w2) ?_;rintro _ w3 rfl ho;have no:∀{W:World},OwnS M.A w W [obE b4 ob0 nilS nilS,obE b o vk vc,.mem M]→Vl.get o key=none→DoX prog (mBuild 48 #[]) W (pk K) (fun t W=>DoX prog (mStore 48 (.pointer (some ⟨b4,0,none⟩)) t) W (pk K) fun _ W=>RetX prog [.cell (.pointer (some ⟨b4,0,none⟩)) 48,.val (.bool false)] W K):=by
  intro W ho hg;rw[m_ob0];refine ob_put 0 rfl rfl ho rfl fun w4 ho=>?_;refine ret_ob2 0 ho rfl (hK _ _ M _ 2 ho rfl M.le_refl ⟨obV Vl.ob0 nilS nilS,?_,?_⟩)
  ·rw[hg];rfl
  ·rw[hg];exact ob0_ov M
 cases hkd:Vl.keyed o with
|false=>
  simp only[rs,Bool.not_false];exact no ho (by unfold Vl.get;rw[hkd];rfl)
|true=>
  simp only[rs,Bool.not_true];rw[fa_o4,ob_keys ho 1 rfl];refine c_eq (sindex_ret vk o.keys key w3 (ha.keys.now (ho.hasM 2 rfl)) (by omega)) ?_;by_cases hi:o.keys.idxOf key < o.keys.length
  ·rw[if_pos hi];have h0:¬((o.keys.idxOf key:Int) < 0):=by omega
   simp only[rs,h0,decide_false,fa_o5,ob_kids ho 1 rfl];rw[sl_len Tryz.underlying46 (ha.kids.now (ho.hasM 2 rfl))];simp only[rs];by_cases hc:(o.kids.length:Int)≤(o.keys.idxOf key:Int)
   ·simp only[hc,decide_true,rs];refine no ho ?_;unfold Vl.get;rw[hkd,if_pos rfl,if_pos hi,List.getElem?_eq_none (by omega)]
   ·simp only[hc,decide_false,rs,fa_o5,ob_kids ho 1 rfl];have hi':o.keys.idxOf key < o.kids.length:=by omega
    have hg:Vl.get o key=some o.kids[o.keys.idxOf key]:=by
     unfold Vl.get;rw[hkd,if_pos rfl,if_pos hi,List.getElem?_eq_getElem hi']
    obtain⟨x,q,hx,hrx⟩:=kid_at ha hi';obtain⟨r1,r2⟩:=hrx w3 (ho.hasM 2 rfl);refine do_eq r1 |>.mpr (do_eq r2 |>.mpr ?_);have hkw:=kid_wt hi';refine c_mem ho 2 rfl (clone_ret _ x M w3 (by omega) (ho.hasM 2 rfl) hx) fun y N w4 hle hy ho=>?_;obtain⟨yk,yc,ycs,rfl,hya⟩:=hy.open;refine ob_put 0 hya.keys.one hya.kids.one ho rfl fun w5 ho=>?_;refine ret_ob2 0 ho rfl (hK _ _ N _ 2 ho rfl hle ⟨obV o.kids[o.keys.idxOf key] yk yc,?_,?_⟩)
    ·rw[hg];rfl
    ·rw[hg];exact hy
  ·rw[if_neg hi];have h0:((-1:Int) < 0):=by omega
   simp only[rs,h0,decide_true,g_un];refine no ho ?_;unfold Vl.get;rw[hkd,if_pos rfl,if_neg hi]
theorem sound_ret (o:Ob)(v:Value)(M:Mem)(w:World)(hw:o.wt≤100000000000)(hM:M.has w)(hv:OV M.A M.w v o) :
  RetM prog 80 #[v] M w (fun r N=>∃v',r=errV v' (Vl.right o).2∧OV N.A N.w v' (Vl.right o).1):=by
 obtain⟨vk,vc,cs,rfl,ha⟩:=hv.open;refine retM_of hM fun K hK=>S_value_sound_ok ?_;unfold S_value_sound;refine o_obb o ha.keys.one ha.kids.one (OwnS.memS hM) fun b w1 ho=>?_;refine o_oba ho fun b4 w2 ho=>?_;rw[ob_v ho 1 rfl];refine c_below ho (R:=fun v=>v=.int .i64 (Vl.check 1 o)) (vCheck_ret o _ w2 (OV.inw (ho.hasM 2 rfl) hv) (by omega)) ?_;rintro _ w3 rfl ho;simp only[n_err];by_cases hc:Vl.check 1 o=0
 ·simp only[hc,ne_eq,not_true,decide_false,i_f];rw[ob_v ho 1 rfl];refine ob_put 0 ha.keys.one ha.kids.one ho rfl fun w4 ho=>?_;refine ret_ob2 0 ho rfl (hK _ _ M _ 2 ho rfl M.le_refl ⟨obV o vk vc,?_,?_⟩)
  ·simp[Vl.right,hc,errV]
  ·simpa[Vl.right,hc] using hv
 ·simp only[hc,ne_eq,not_false_eq_true,decide_true,i_t];rw[m_ob0];refine ob_put 0 rfl rfl ho rfl fun w4 ho=>?_;refine ret_ob2 0 ho rfl (hK _ _ M _ 2 ho rfl M.le_refl ⟨obV Vl.ob0 nilS nilS,?_,?_⟩)
  ·simp[Vl.right,hc,errV]
  ·simpa[Vl.right,hc] using ob0_ov M
end
section
open Go
namespace Vl
theorem tot_split (l:List (List UInt8))(i:Nat):Pl.tot (l.take i)+Pl.tot (l.drop i)=Pl.tot l:=by
 rw[←Pl.tot_append,List.take_append_drop]
theorem wts_app:∀a b:List Ob,Ob.wts (a++b)=Ob.wts a+Ob.wts b
|[],b=>by rw[List.nil_append,Ob.wts];omega
|o::a,b=>by rw[List.cons_append,Ob.wts,Ob.wts,wts_app a b];omega
theorem wts_split (l:List Ob)(i:Nat):Ob.wts (l.take i)+Ob.wts (l.drop i)=Ob.wts l:=by
 rw[←wts_app,List.take_append_drop]
theorem drop_tot (l:List (List UInt8))(i j:Nat)(h:i≤j):Pl.tot (l.drop j)≤Pl.tot (l.drop i):=by
 have:=tot_split (l.drop i) (j - i);rw[List.drop_drop,show i+(j - i)=j by omega] at this;omega
theorem drop_wts (l:List Ob)(i j:Nat)(h:i≤j):Ob.wts (l.drop j)≤Ob.wts (l.drop i):=by
 have:=wts_split (l.drop i) (j - i);rw[List.drop_drop,show i+(j - i)=j by omega] at this;omega
theorem wt_eq (o:Ob):o.wt=6+o.s.length+Pl.tot o.keys+Ob.wts o.kids:=by cases o;rw[Ob.wt];rfl
theorem put_wt (o:Ob)(key:List UInt8)(v:Ob):(put o key v).wt≤o.wt+(key.length+1)+v.wt:=by
 rw[wt_eq (put o key v),wt_eq o];rw[show (put o key v).s=o.s from rfl,show (put o key v).keys=o.keys.take (place o.keys key)++key::o.keys.drop (place o.keys key+if hit o.keys key then 1 else 0) from rfl,
  show (put o key v).kids=o.kids.take (place o.keys key)++v::o.kids.drop (place o.keys key+if hit o.keys key then 1 else 0) from rfl]
 rw[Pl.tot_append,wts_app];have h1:=tot_split o.keys (place o.keys key);have h2:=drop_tot o.keys (place o.keys key) (place o.keys key+if hit o.keys key then 1 else 0) (by omega);have h3:=wts_split o.kids (place o.keys key);have h4:=drop_wts o.kids (place o.keys key) (place o.keys key+if hit o.keys key then 1 else 0) (by omega);have h5:∀l,Pl.tot (key::l)=key.length+1+Pl.tot l:=fun l=>by simp[Pl.tot]
 rw[h5,Ob.wts];omega
theorem get_wt {o:Ob}{key:List UInt8}:((get o key).getD ob0).wt≤o.wt:=by
 have h0:ob0.wt≤o.wt:=by
  rw[wt_eq ob0,wt_eq o];show 6+0+Pl.tot []+Ob.wts []≤_;simp[Pl.tot,Ob.wts];omega
 unfold get;split
 ·split
  ·rcases hx:o.kids[o.keys.idxOf key]? with _|x
   ·exact h0
   ·obtain⟨hi,rfl⟩:=List.getElem?_eq_some_iff.1 hx;have h1:=wts_split o.kids (o.keys.idxOf key);rw[List.drop_eq_getElem_cons hi,Ob.wts] at h1;rw[wt_eq o];simp only[Option.getD_some];omega
  ·exact h0
 ·exact h0
end Vl
end
section
open Eng Go.RowKit
theorem OwnS.sep {S:Nat→Prop}{w0 w:World}{L:List Ent}(ho:OwnS S w0 w L)(i j:Nat)(hij:i≠j){e f:Ent}(hi:L[i]?=some e)(hj:L[j]?=some f):∀k,e.blk k→¬f.blk k:=by
 obtain⟨hil,rfl⟩:=List.getElem?_eq_some_iff.1 hi;obtain⟨hjl,rfl⟩:=List.getElem?_eq_some_iff.1 hj;have hp:=List.pairwise_iff_getElem.1 ho.apart;intro k hk hk';rcases Nat.lt_or_ge i j with h|h
 ·exact hp i j hil hjl h k hk hk'
 ·exact hp j i hjl hil (by omega) k hk' hk
section
variable {w:World}{S:Nat→Prop}{w0:World}{L:List Ent}{PK:PKT}{K:VWP}
theorem o_obs1 (o:Ob){vk vc:Value}(hk:vk.oneCell'=true)(hc:vc.oneCell'=true)(ho:OwnS S w0 w L)(k:∀b w',OwnS S w0 w' (obE b o vk vc::L)→K (.slice (some ⟨b,0,none⟩) 1 1) w'):DoX prog (mBuildS 46 1 #[(0,obV o vk vc)]) w PK K:=by
 cases vk<;>first|(cases hk;done)|skip
 all_goals cases vc<;>first|(cases hc;done)|exact o_new (fun b=>.slice (some ⟨b,0,none⟩) 1 1) (obC o _ _) 48 (fun _=>by kernel_rfl) ho k
theorem o_strb1 (s:List UInt8)(ho:OwnS S w0 w L)(k:∀b w',OwnS S w0 w' (.cells b [.string ⟨s.toArray⟩] 9::L)→K (.slice (some ⟨b,0,none⟩) 1 1) w'):DoX prog (mBuildS 23 1 #[(0,.string ⟨s.toArray⟩)]) w PK K:=
 o_new (fun b=>.slice (some ⟨b,0,none⟩) 1 1) [.string ⟨s.toArray⟩] 9 (fun _=>by kernel_rfl) ho k
end
theorem strsV_take (l:List (List UInt8))(i:Nat):(strsV l).take (i*1)=strsV (l.take i):=by rw[Nat.mul_one];simp[strsV]
theorem strsV_drop (l:List (List UInt8))(i:Nat):(strsV l).drop (i*1)=strsV (l.drop i):=by rw[Nat.mul_one];simp[strsV]
theorem strsV_app (a b:List (List UInt8)):strsV (a++b)=strsV a++strsV b:=by simp[strsV]
theorem ovs_take {A:Nat→Prop}{w:World}:∀{os:List Ob} {cs:List Value} (i:Nat),OVs A w cs os→OVs A w (cs.take (i*6)) (os.take i)
|_,_,0,_=>by rw[Nat.zero_mul,List.take_zero,List.take_zero];exact OVs.nil
|[],cs,i+1,h=>by rw[OVs] at h;subst h;rw[List.take_nil,List.take_nil];exact OVs.nil
|o::os,cs,i+1,h=>by
  rw[OVs] at h;obtain⟨a,rest,rfl,hl,h1,h2⟩:=h;have e:(a++rest).take ((i+1)*6)=a++rest.take (i*6):=by
   rw[List.take_append,List.take_of_length_le (by omega)]
   congr 2
   omega
  rw[e,List.take_succ_cons,OVs];exact⟨a,_,rfl,hl,h1,ovs_take i h2⟩
theorem ovs_drop {A:Nat→Prop}{w:World}:∀{os:List Ob} {cs:List Value} (i:Nat),OVs A w cs os→OVs A w (cs.drop (i*6)) (os.drop i)
|_,_,0,h=>by rw[Nat.zero_mul,List.drop_zero,List.drop_zero];exact h
|[],cs,i+1,h=>by rw[OVs] at h;subst h;rw[List.drop_nil,List.drop_nil];exact OVs.nil
|o::os,cs,i+1,h=>by
  rw[OVs] at h;obtain⟨a,rest,rfl,hl,h1,h2⟩:=h;have e:(a++rest).drop ((i+1)*6)=rest.drop (i*6):=by
   rw[List.drop_append,List.drop_eq_nil_of_le (by omega),List.nil_append]
   congr 1
   omega
  rw[e,List.drop_succ_cons];exact ovs_drop i h2
theorem with_ret (o x:Ob)(v u:Value)(key:List UInt8)(M:Mem)(w:World)(hw:o.wt≤10000000000)(hM:M.has w)(hv:OV M.A M.w v o)(hu:OV M.A M.w u x)(hr:Vl.Rise o.keys)(hlen:o.keys.length=o.kids.length) :
  RetM prog 113 #[v,.string ⟨key.toArray⟩,u] M w (fun r N=>OV N.A N.w r (Vl.put o key x)):=by
 obtain⟨vk,vc,cs,rfl,ha⟩:=hv.open;obtain⟨xk,xc,xcs,rfl,hx⟩:=hu.open;have hww:Ob.wts o.kids≤10000000000:=by cases o;rw[Ob.wt] at hw;simp only[Ob.kids];omega
 have hkt:Pl.tot o.keys≤10000000000:=by cases o;rw[Ob.wt] at hw;simp only[Ob.keys];omega
 have hkl:=Pl.length_tot o.keys;have hlk:=Ob.len_wts o.kids;refine retM_of hM fun K hK=>S_value_with_ok ?_;unfold S_value_with;refine o_obb o ha.keys.one ha.kids.one (OwnS.memS hM) fun b3 w1 ho=>?_;refine o_obb x hx.keys.one hx.kids.one ho fun b5 w2 ho=>?_;refine o_oba ho fun b6 w3 ho=>?_;rw[fa_o4,ob_keys ho 2 rfl];refine c_eq (bsearch_ret vk o.keys key w3 (ha.keys.now (ho.hasM 3 rfl)) hr (by omega)) ?_;simp only[ex];rw[fa_o4,ob_keys ho 2 rfl];refine c_ret (sclone_s_ret vk _ _ w3 (ha.keys.now (ho.hasM 3 rfl)) strsV_one5 (by omega)) fun vk1 w4 hnew=>?_;have ho:=ho.join hnew;have ho:OwnS M.A w w4 [.urow 9 1 vk1 o.keys.length (strsV o.keys),obE b6 ob0 nilS nilS,obE b5 x xk xc,obE b3 o vk vc,.mem M]:=ho;rw[fa_o4];refine o_store 3 ho rfl (by kernel_rfl) (urow_one (ho.at_ 0 rfl)) (show 0+4 < 6 by omega) fun w5 ho=>?_;have ho:OwnS M.A w w5 [.urow 9 1 vk1 o.keys.length (strsV o.keys),obE b6 ob0 nilS nilS,obE b5 x xk xc,obE b3 o vk1 vc,.mem M]:=ho;rw[fa_o5,ob_kids ho 3 rfl];refine c_ret (sclone_o_ret vc _ _ w5 (ha.kids.now (ho.hasM 4 rfl)) (ovs_one ha.all) (by omega)) fun vc1 w6 hnew=>?_;have ho:=ho.join hnew;have ho:OwnS M.A w w6 [.urow 48 6 vc1 o.kids.length cs,.urow 9 1 vk1 o.keys.length (strsV o.keys),obE b6 ob0 nilS nilS,obE b5 x xk xc,obE b3 o vk1 vc,.mem M]:=ho;rw[fa_o5];refine o_store 4 ho rfl (by kernel_rfl) (urow_one (ho.at_ 0 rfl)) (show 0+5 < 6 by omega) fun w7 ho=>?_;have ho:OwnS M.A w w7 [.urow 48 6 vc1 o.kids.length cs,.urow 9 1 vk1 o.keys.length (strsV o.keys),obE b6 ob0 nilS nilS,obE b5 x xk xc,obE b3 o vk1 vc1,.mem M]:=ho;have hple:=Vl.place_le o.keys key;refine join fun J hJ=>?_;have fin:∀(W:World) (kv cv:Value) (ks:List (List UInt8)) (os:List Ob) (ds:List Value),OwnS M.A w W [.urow 48 6 cv os.length ds,.urow 9 1 kv ks.length (strsV ks),obE b6 ob0 nilS nilS,obE b5 x xk xc,obE b3 o kv cv,.mem M] →
   OVs M.A M.w ds os→Vl.put o key x=.mk o.k o.n o.g o.s ks os→J [] W:=by
  intro W kv cv ks os ds ho hall hput;refine hJ _ _ fun _=>?_;unfold S_value_with_0;have hk1:=urow_one (ho.at_ 1 rfl);have hc1:=urow_one (ho.at_ 0 rfl);obtain⟨N,hle,hrow,ho⟩:=OwnS.freezeU (L:=[.urow 9 1 kv ks.length (strsV ks),obE b6 ob0 nilS nilS,obE b5 x xk xc,obE b3 o kv cv,.mem M]) ho 4 rfl;obtain⟨N2,hle2,hrow2,ho⟩:=OwnS.freezeU (L:=[obE b6 ob0 nilS nilS,obE b5 x xk xc,obE b3 o kv cv,.mem N]) ho 3 rfl;have ho:OwnS M.A w W [obE b6 ob0 nilS nilS,obE b5 x xk xc,obE b3 o kv cv,.mem N2]:=ho;rw[ob_v ho 2 rfl];refine ob_put 0 hk1 hc1 ho rfl fun w8 ho=>?_;refine ret_v1 (rv_cell (ho.agg 0 rfl aggOb)) (hK _ _ N2 _ 3 ho rfl (hle.trans hle2) ?_);rw[hput];exact ObAt.ov (o:=.mk o.k o.n o.g o.s ks os) ⟨hrow2,hrow.le hle2,hall.le (hle.trans hle2)⟩
 cases hh:Vl.hit o.keys key with
|true=>
  simp only[i_t];have hi:o.keys[Vl.place o.keys key]?=some key:=of_decide_eq_true hh;have hlt:Vl.place o.keys key < o.keys.length:=(List.getElem?_eq_some_iff.1 hi).1;have hg:o.keys[Vl.place o.keys key]=key:=(List.getElem?_eq_some_iff.1 hi).2;rw[fa_o5,ob_kids ho 4 rfl,ob_v ho 3 rfl];obtain⟨g,cap,rfl⟩:=urow_open (ho.at_ 0 rfl) (by omega);refine do_eq (run_ia Tryz.underlying46 szOb (by omega) (by omega)) |>.mpr ?_;rw[Int.toNat_natCast,Nat.zero_add];have hcl:cs.length=o.kids.length*6:=ha.kids.1.1;refine o_storeU 0 ho rfl (u:=obV x xk xc) (new:=obC x xk xc) rfl szOb (obC_one _ hx.keys.one hx.kids.one) (by show _+6≤_;omega) fun w8 ho=>?_;have e1:o.keys.take (Vl.place o.keys key)++key::o.keys.drop (Vl.place o.keys key+1)=o.keys:=by
   conv=>rhs;rw[←List.take_append_drop (Vl.place o.keys key) o.keys,List.drop_eq_getElem_cons hlt,hg]
  refine fin w8 vk1 (.slice (some ⟨g,0,none⟩) o.kids.length cap) o.keys (o.kids.take (Vl.place o.keys key)++x::o.kids.drop (Vl.place o.keys key+1)) (cs.take (Vl.place o.keys key*6)++obC x xk xc++cs.drop (Vl.place o.keys key*6+6)) ?_ ?_ ?_
  ·have el:(o.kids.take (Vl.place o.keys key)++x::o.kids.drop (Vl.place o.keys key+1)).length=o.kids.length:=by simp;omega
   rw[el];exact ho
  ·have:=ovs_app (ovs_take (Vl.place o.keys key) ha.all) (ovs_app (ovs_1 hu) (ovs_drop (Vl.place o.keys key+1) ha.all));rw[show (Vl.place o.keys key+1)*6=Vl.place o.keys key*6+6 by omega,←List.append_assoc] at this;exact this
  ·unfold Vl.put;rw[hh];simp only[if_true];rw[e1]
|false=>
  simp only[i_f];rw[fa_o4,ob_keys ho 4 rfl];refine o_strb1 key ho fun nb w8 ho=>?_;refine c_turn 2 ho rfl (sinsert_s_ret vk1 o.keys.length (strsV o.keys) (Vl.place o.keys key) nb [.string ⟨key.toArray⟩] w8 (ho.at_ 2 rfl) (ho.at_ 0 rfl) rfl (fun h=>(OwnS.sep ho 2 0 (by omega) rfl rfl) nb h rfl) strsV_one5 (by simp[Value.oneCell']) hple (by omega)) ?_;rintro kv e' w9 rfl ho;have ho:OwnS M.A w w9 [.cells nb [.string ⟨key.toArray⟩] 9,.urow 48 6 vc1 o.kids.length cs,.urow 9 1 kv (o.keys.length+1) ((strsV o.keys).take (Vl.place o.keys key*1)++[.string ⟨key.toArray⟩]++(strsV o.keys).drop (Vl.place o.keys key*1)),obE b6 ob0 nilS nilS,obE b5 x xk xc,obE b3 o vk1 vc1,.mem M]:=ho;rw[strsV_take,strsV_drop] at ho;have ho:=ho.tail;rw[fa_o4];refine o_store 4 ho rfl (by kernel_rfl) (urow_one (ho.at_ 1 rfl)) (show 0+4 < 6 by omega) fun w10 ho=>?_;have ho:OwnS M.A w w10 [.urow 48 6 vc1 o.kids.length cs,.urow 9 1 kv (o.keys.length+1) (strsV (o.keys.take (Vl.place o.keys key))++[.string ⟨key.toArray⟩]++strsV (o.keys.drop (Vl.place o.keys key))),obE b6 ob0 nilS nilS,obE b5 x xk xc,obE b3 o kv vc1,.mem M]:=ho;rw[fa_o5,ob_kids ho 4 rfl,ob_v ho 3 rfl];refine o_obs1 x hx.keys.one hx.kids.one ho fun nb2 w11 ho=>?_;refine c_turn 1 ho rfl (sinsert_o_ret vc1 o.kids.length cs (Vl.place o.keys key) nb2 (obC x xk xc) w11 (ho.at_ 1 rfl) (ho.at_ 0 rfl) rfl (fun h=>(OwnS.sep ho 1 0 (by omega) rfl rfl) nb2 h rfl) (ovs_one ha.all) (obC_one _ hx.keys.one hx.kids.one) (by omega) (by omega)) ?_;rintro cv e' w12 rfl ho;have ho:OwnS M.A w w12 [.cells nb2 (obC x xk xc) 48,.urow 48 6 cv (o.kids.length+1) (cs.take (Vl.place o.keys key*6)++obC x xk xc++cs.drop (Vl.place o.keys key*6)),.urow 9 1 kv (o.keys.length+1) (strsV (o.keys.take (Vl.place o.keys key))++[.string ⟨key.toArray⟩]++strsV (o.keys.drop (Vl.place o.keys key))),obE b6 ob0 nilS nilS,obE b5 x xk xc,obE b3 o kv vc1,.mem M]:=ho;have ho:=ho.tail;rw[fa_o5];refine o_store 4 ho rfl (by kernel_rfl) (urow_one (ho.at_ 0 rfl)) (show 0+5 < 6 by omega) fun w13 ho=>?_;refine fin w13 kv cv (o.keys.take (Vl.place o.keys key)++key::o.keys.drop (Vl.place o.keys key)) (o.kids.take (Vl.place o.keys key)++x::o.kids.drop (Vl.place o.keys key)) (cs.take (Vl.place o.keys key*6)++obC x xk xc++cs.drop (Vl.place o.keys key*6)) ?_ ?_ ?_
  ·have el:(o.kids.take (Vl.place o.keys key)++x::o.kids.drop (Vl.place o.keys key)).length=o.kids.length+1:=by simp;omega
   have el2:(o.keys.take (Vl.place o.keys key)++key::o.keys.drop (Vl.place o.keys key)).length=o.keys.length+1:=by simp;omega
   have es:strsV (o.keys.take (Vl.place o.keys key)++key::o.keys.drop (Vl.place o.keys key))=strsV (o.keys.take (Vl.place o.keys key))++[.string ⟨key.toArray⟩]++strsV (o.keys.drop (Vl.place o.keys key)):=by
    rw[strsV_app];simp[strsV,strV]
   rw[el,el2,es];exact ho
  ·have:=ovs_app (ovs_take (Vl.place o.keys key) ha.all) (ovs_app (ovs_1 hu) (ovs_drop (Vl.place o.keys key) ha.all));rw[←List.append_assoc] at this;exact this
  ·unfold Vl.put;rw[hh];simp
end
section
open Eng Go.RowKit
theorem SlA.form {A:Nat→Prop}{w:World}{v:Value}{sz n:Nat}{cs:List Value}(h:SlA A w v sz n cs):∃a cap,v=.slice a n cap∧n≤cap:=by
 obtain⟨⟨_,a,cap,rfl,_⟩,_,h3⟩:=h;exact⟨a,cap,rfl,h3 a n cap rfl⟩
end
section
open Eng Go.RowKit
theorem elOb:elB prog 48 6 88=true:=by kernel_rfl
section
variable {w:World}{S:Nat→Prop}{w0:World}{L:List Ent}{PK:PKT}{K:VWP}
theorem o_apO (i:Nat){v v2:Value}{n m:Nat}{xs news:List Value}{cb:Array Bool}(ho:OwnS S w0 w L)(hi:L[i]?=some (.urow 48 6 v n xs))(hs:Sl w v2 6 m news)(h1:∀u∈news,u.oneCell'=true)(hb:n+m≤1000000000000)
  (k:∀v' w',OwnS S w0 w' (L.set i (.urow 48 6 v' (n+m) (xs++news)))→K v' w'):DoX prog (mB .append #[46,46] 46 cb #[v,v2]) w PK K:=
 o_appendU i Tryz.underlying46 elOb (by decide) ho hi hs h1 (by omega) (by omega) k
end
end
section
namespace Eng
open Go.RowKit
def strK (k:List UInt8):Value:=.string ⟨k.toArray⟩
def MapIs (w:World)(b:Nat)(al:List (List UInt8×Value)):Prop:=∃es clock,w.heap[b]?=some (.map es clock)∧es.toList.map (fun e=>(e.key,e.val))=al.map fun p=>(strK p.1,p.2)
def Ent.map (b:Nat)(al:List (List UInt8×Value)):Ent:=⟨fun k=>k=b,fun w=>MapIs w b al,fun {w w'} h k=>by
  obtain⟨es,clock,h1,h2⟩:=h;exact⟨es,clock,(k b rfl).trans h1,h2⟩,fun h k hk=>by
  obtain⟨es,clock,h1,h2⟩:=h;cases hk;exact lt_of_get h1⟩
def lookA (al:List (List UInt8×Value))(k:List UInt8):Option Value:=(al.find? fun p=>decide (p.1=k)).map (·.2)
theorem findNow_str (k:List UInt8):∀(es:List MapEntry) (al:List (List UInt8×Value)) (i:Nat),es.map (fun e=>(e.key,e.val))=al.map (fun p=>(strK p.1,p.2)) →
  ∃r,Instr.findNow .string (strK k) es i=some r∧r.map (·.2)=lookA al k
|[],[],i,_=>⟨none,rfl,rfl⟩
|e::es,p::al,i,h=>by
  simp only[List.map_cons,List.cons.injEq,Prod.mk.injEq] at h;obtain⟨⟨h1,h2⟩,h3⟩:=h;have hs:Instr.sameNow .string (strK k) e.key=some (decide (k=p.1)):=by
   rw[h1];show some ((⟨k.toArray⟩:ByteArray)==⟨p.1.toArray⟩)=_
   congr 1
   show (k.toArray==p.1.toArray)=_;by_cases hk:k=p.1<;>simp[hk]
  by_cases hk:k=p.1
  ·refine⟨some (i,e.val),?_,?_⟩
   ·rw[Instr.findNow,hs];simp[hk]
   ·simp[lookA,hk,h2]
  ·obtain⟨r,hr1,hr2⟩:=findNow_str k es al (i+1) h3;refine⟨r,?_,?_⟩
   ·rw[Instr.findNow,hs];simp[hk,hr1]
   ·have hk':¬p.1=k:=fun e=>hk e.symm;rw[hr2];simp[lookA,hk']
|[],_::_,_,h=>by simp at h
|_::_,[],_,h=>by simp at h
section
variable {S:Nat→Prop}{P:Program}{w w0:World}{L:List Ent}{PK:PKT}{K:VWP}
theorem o_mapNew {T:TypeId}(ho:OwnS S w0 w L)(k:∀b w',OwnS S w0 w' (.map b []::L)→K (.map (some b)) w'):DoX P (mMap T none) w PK K:=by
 have hr:(Instr.makeMap T none).run P w=.ok (.map (some w.heap.size)) (w.alloc (.map #[] 0)):=rfl;exact do_ok (mv_run hr) (k _ _ (ho.add (World.grownBy_alloc w _ none) (.map w.heap.size []) ⟨#[],0,heap_alloc_new w _,rfl⟩ (fun k hk=>by cases hk;exact Nat.le_refl _)))
theorem run_checkStr {k:TypeId}{e:Bool}(hk:P.underlying k=some .string)(x:List UInt8):(Instr.checkKey e 10000 k (strK x)).run P w=.ok () w:=by
 show (Instr.checkKey e (9999+1) k (strK x)).run P w=_;rw[Instr.checkKey];simp[run_underlying hk,strK]
theorem run_findStr {k:TypeId}(hk:P.underlying k=some .string)(x:List UInt8){es:List MapEntry}{al:List (List UInt8×Value)}(h:es.map (fun e=>(e.key,e.val))=al.map (fun p=>(strK p.1,p.2))) :
  ∃r,(Instr.findKey k (strK x) es).run P w=.ok r w∧r.map (·.2)=lookA al x:=by
 obtain⟨r,h1,h2⟩:=findNow_str x es al 0 h;refine⟨r,?_,h2⟩;simp[Instr.findKey,run_underlying hk,h1]
theorem run_look {T k e:TypeId}{ok:Bool}{b:Nat}{al:List (List UInt8×Value)}{z:Value}(ht:P.underlying T=some (.map k e))(hk:P.underlying k=some .string)(hz:(P.info? e).bind (·.zero)=some z)(h:MapIs w b al)(x:List UInt8) :
  (mLook T (.map (some b)) (strK x) ok).run P w=.ok (.value (if ok then .tuple #[(lookA al x).getD z,.bool (lookA al x).isSome] else (lookA al x).getD z)) w:=by
 obtain⟨es,clock,h1,h2⟩:=h;obtain⟨r,r1,r2⟩:=run_findStr (P:=P) (w:=w) hk x h2;have hz':(zeroValue e).run P w=.ok z w:=by
  obtain⟨i,hi,hzi⟩:=Option.bind_eq_some_iff.1 hz;simp[zeroValue,typeInfo,hi,hzi]
 refine mv_run ?_;rw[←r2];cases r with
|none=>simp[Instr.lookup,run_underlying ht,getObj,Sem.run,h1,run_checkStr hk x,r1,hz']
|some p=>
  obtain⟨i,v⟩:=p;simp[Instr.lookup,run_underlying ht,getObj,Sem.run,h1,run_checkStr hk x,r1]
theorem o_mapAdd (i:Nat){T k e:TypeId}{b:Nat}{al:List (List UInt8×Value)}(ht:P.underlying T=some (.map k e))(hk:P.underlying k=some .string)(ho:OwnS S w0 w L)(hi:L[i]?=some (.map b al))(x:List UInt8)(v:Value)(hn:lookA al x=none)
  (kk:∀w',OwnS S w0 w' (L.set i (.map b (al++[(x,v)])))→K undef w'):DoX P (mMapU T (.map (some b)) (strK x) v) w PK K:=by
 obtain⟨es,clock,h1,h2⟩:=(show MapIs w b al from ho.at_ i hi);obtain⟨r,r1,r2⟩:=run_findStr (P:=P) (w:=w) hk x h2;have hr0:r=none:=by
  cases r with
 |none=>rfl
 |some p=>rw[hn] at r2;cases r2
 subst hr0;have hr:(Instr.mapUpdate T (.map (some b)) (strK x) v).run P w=.ok () { w with heap:=w.heap.setIfInBounds b (.map (es.push { key:=strK x,val:=v,born:=clock }) (clock+1)) }:=by
  simp[Instr.mapUpdate,run_underlying ht,getObj,setObj,Sem.run,h1,run_checkStr hk x,r1]
 refine do_skip (mu_run hr) (kk _ ?_);refine ho.put i hi (w':={ w with heap:=w.heap.setIfInBounds b _ }) ⟨rfl,rfl,rfl,by simp,fun k _ hk=>?_⟩ (.map b (al++[(x,v)])) ?_ (fun k hk=>.inl hk)
 ·show (w.heap.setIfInBounds b _)[k]?=_;exact Array.getElem?_setIfInBounds_ne (fun e=>hk (by simp[Ent.map,e]))
 ·refine⟨es.push { key:=strK x,val:=v,born:=clock },clock+1,?_,?_⟩
  ·show (w.heap.setIfInBounds b _)[b]?=_;exact Array.getElem?_setIfInBounds_self_of_lt (lt_of_get h1)
  ·simp[h2]
end
theorem lookA_none {al:List (List UInt8×Value)}{k:List UInt8}:lookA al k=none↔k ∉ al.map (·.1):=by
 unfold lookA;rw[Option.map_eq_none_iff,List.find?_eq_none];exact⟨fun h hm=>by obtain⟨p,hp,rfl⟩:=List.mem_map.1 hm;simpa using h p hp,fun h p hp hc=>h (List.mem_map.2 ⟨p,hp,by simpa using hc⟩)⟩
end Eng
end
section
open Go
namespace Vl
def namesOk:List Ob→Bool
|k::_::r=>decide (k.k=5)&&namesOk r
|[k]=>decide (k.k=5)
|[]=>true
def dictG (met:List (List UInt8))(o:Ob):List Ob→Ob×Int
|k::v::r=>if k.s∈met then (ob0,9) else dictG (met++[k.s]) (if v.k≠0 then put o k.s v else o) r
|_=>right o
def dict (ps:List Ob):Ob×Int:=if ps.length % 2≠0 then (ob0,1) else if namesOk ps=false then (ob0,1) else dictG [] (.mk 7 0 0 [] [] []) ps
theorem rise_put {o:Ob}{key:List UInt8}{v:Ob}(h:Rise o.keys)(hl:o.keys.length=o.kids.length):Rise (put o key v).keys∧(put o key v).keys.length=(put o key v).kids.length:=by
 have hp:=place_le o.keys key;refine⟨?_,?_⟩
 ·show Rise (o.keys.take (place o.keys key)++key::o.keys.drop (place o.keys key+if hit o.keys key then 1 else 0));have hlo:∀x∈o.keys.take (place o.keys key),less x key=true:=by
   intro x hx;obtain⟨m,hm,rfl⟩:=List.getElem_of_mem hx;rw[List.length_take] at hm;rw[List.getElem_take];exact place_lt (by omega)
  have hhi:∀x∈o.keys.drop (place o.keys key+if hit o.keys key then 1 else 0),less key x=true:=by
   intro x hx;cases hh:hit o.keys key with
  |true=>
    rw[hh] at hx;obtain⟨m,hm,rfl⟩:=List.getElem_of_mem hx;simp only[if_true,List.length_drop] at hm;have hi:o.keys[place o.keys key]?=some key:=of_decide_eq_true hh;have hg:o.keys[place o.keys key]=key:=(List.getElem?_eq_some_iff.1 hi).2;have:=rise_get h (i:=place o.keys key) (j:=place o.keys key+1+m) (by omega) (by omega);rw[hg] at this;simpa using this
  |false=>
    rw[hh] at hx;obtain⟨m,hm,rfl⟩:=List.getElem_of_mem hx;simp only[Bool.false_eq_true,if_false,List.length_drop] at hm;have hlt:place o.keys key < o.keys.length:=by omega
    have hge:=place_ge hlt;have hne:o.keys[place o.keys key]≠key:=by
     intro e;unfold hit at hh;rw[List.getElem?_eq_getElem hlt,e] at hh;simp at hh
    have hk:=less_total hge hne;rcases Nat.eq_zero_or_pos m with h0|h0
    ·subst h0;simpa using hk
    ·have:=rise_get h (i:=place o.keys key) (j:=place o.keys key+m) (by omega) (by omega);simpa using less_trans hk this
  refine List.pairwise_append.2 ⟨h.sublist (List.take_sublist _ _),List.pairwise_cons.2 ⟨hhi,h.sublist (List.drop_sublist _ _)⟩,fun a ha b hb=>?_⟩;rcases List.mem_cons.1 hb with rfl|hb
  ·exact hlo a ha
  ·exact less_trans (hlo a ha) (hhi b hb)
 ·show (o.keys.take (place o.keys key)++key::o.keys.drop (place o.keys key+if hit o.keys key then 1 else 0)).length=(o.kids.take (place o.keys key)++v::o.kids.drop (place o.keys key+if hit o.keys key then 1 else 0)).length;simp only[List.length_append,List.length_take,List.length_cons,List.length_drop];omega
theorem namesOk_step {ps:List Ob}{i:Nat}(h:i+1 < ps.length):namesOk (ps.drop i)=(decide ((ps[i]'(by omega)).k=5)&&namesOk (ps.drop (i+2))):=by
 rw[List.drop_eq_getElem_cons (show i < ps.length by omega),List.drop_eq_getElem_cons h,namesOk]
theorem dictG_step {ps:List Ob}{i:Nat}{met:List (List UInt8)}{o:Ob}(h:i+1 < ps.length):dictG met o (ps.drop i)=if (ps[i]'(by omega)).s∈met then (ob0,9) else dictG (met++[(ps[i]'(by omega)).s]) (if ps[i+1].k≠0 then put o (ps[i]'(by omega)).s ps[i+1] else o) (ps.drop (i+2)):=by
 rw[List.drop_eq_getElem_cons (show i < ps.length by omega),List.drop_eq_getElem_cons h,dictG]
theorem wts_step {ps:List Ob}{i:Nat}(h:i+1 < ps.length):Ob.wts (ps.drop i)=(ps[i]'(by omega)).wt+ps[i+1].wt+Ob.wts (ps.drop (i+2)):=by
 rw[List.drop_eq_getElem_cons (show i < ps.length by omega),List.drop_eq_getElem_cons h,Ob.wts,Ob.wts,show i+1+1=i+2 from rfl];omega
end Vl
end
section
open Eng Go.RowKit
theorem varr_ret (os:List Ob)(v:Value)(cs:List Value)(M:Mem)(w:World)(hw:Ob.wts os≤10000000000)(hM:M.has w)(hs:SlA M.A M.w v 6 os.length cs)(hall:OVs M.A M.w cs os) :
  RetM prog 68 #[v] M w (fun r N=>OV N.A N.w r (.mk 6 0 0 [] [] os)):=by
 obtain⟨a,cap,rfl,_⟩:=hs.form;refine retM_of hM fun K hK=>S_value_Array_ok ?_;unfold S_value_Array;refine o_oba (OwnS.memS hM) fun b w1 ho=>?_;have hb:∀{PK:PKT} {K:VWP},DoX prog (mBuild 48 #[(0,(.int .i64 6)),(5,.slice a os.length cap)]) w1 PK K=K (obV (.mk 6 0 0 [] [] os) nilS (.slice a os.length cap)) w1:=do_eq (by kernel_rfl);rw[hb];refine c_mem ho 1 rfl (clone_ret (.mk 6 0 0 [] [] os) _ M w1 (by rw[Ob.wt];simp[Pl.tot];omega) (ho.hasM 1 rfl) (ObAt.ov (o:=.mk 6 0 0 [] [] os) (vk:=nilS) (cs:=cs) ⟨SlA.nil _ _ _ _,hs,hall⟩)) fun y N w2 hle hy ho=>?_;obtain⟨yk,yc,ycs,rfl,hya⟩:=hy.open;refine ob_put 0 hya.keys.one hya.kids.one ho rfl fun w3 ho=>?_;exact ret_v1 (rv_cell (ho.agg 0 rfl aggOb)) (hK _ _ N _ 1 ho rfl hle hy)
theorem Sl.cellAt {w:World}{b off cap sz n:Nat}{cs:List Value}(h:Sl w (.slice (some ⟨b,off,none⟩) n cap) sz n cs):∀j u,cs[j]?=some u→w.cell? ⟨b,off+j,none⟩=some u:=by
 obtain⟨_,a,cap',e,_,h2⟩:=h
 injection e with e1 _ _
 exact fun j u hj=>(h2 _ e1.symm).2 j u hj
theorem m_ob7 {w:World}{PK:PKT}{K:VWP}:DoX prog (mBuild 48 #[(0,(.int .i64 7))]) w PK K=K (obV (.mk 7 0 0 [] [] []) nilS nilS) w:=do_eq (by kernel_rfl)
theorem vdict_ret (ps:List Ob)(v:Value)(cs:List Value)(M:Mem)(w:World)(hw:Ob.wts ps≤1000000000)(hM:M.has w)(hs:SlA M.A M.w v 6 ps.length cs)(hall:OVs M.A M.w cs ps) :
  RetM prog 81 #[v] M w (fun r N=>∃v',r=errV v' (Vl.dict ps).2∧OV N.A N.w v' (Vl.dict ps).1):=by
 have hat:ObAt M.A M.w (.mk 0 0 0 [] [] ps) nilS v cs:=⟨SlA.nil _ _ _ _,hs,hall⟩;have hlk:=Ob.len_wts ps;refine retM_of hM fun K hK=>S_value_Dict_ok ?_;unfold S_value_Dict;refine o_oba (OwnS.memS hM) fun b2 w1 ho=>?_;rw[sl_len Tryz.underlying46 (hs.now (ho.hasM 1 rfl)),b_rem (by omega)];have hr:((ps.length:Int).tmod 2)=((ps.length % 2:Nat):Int):=by rw[Int.tmod_eq_emod_of_nonneg (by omega)];omega
 rw[hr];simp only[rs];have no:∀{W:World} {N:Mem} {L:List Ent} (e:Int),OwnS M.A w W (obE b2 ob0 nilS nilS::.mem N::L)→M.le N→Vl.dict ps=(Vl.ob0,e)→DoX prog (mBuild 48 #[]) W (pk K) (fun t W=>DoX prog (mStore 48 (.pointer (some ⟨b2,0,none⟩)) t) W (pk K) fun _ W=>RetX prog [.cell (.pointer (some ⟨b2,0,none⟩)) 48,.val (.int .i64 e)] W K):=by
  intro W N L e ho hle hd;rw[m_ob0];refine ob_put 0 rfl rfl ho rfl fun w4 ho=>?_;refine ret_ob2 0 ho rfl (hK _ _ N _ 1 ho rfl hle ⟨obV Vl.ob0 nilS nilS,?_,?_⟩)
  ·rw[hd];rfl
  ·rw[hd];exact ob0_ov N
 by_cases hodd:ps.length % 2=0
 case neg=>
  have h1:¬(((ps.length % 2:Nat):Int)=0):=by omega
  simp only[h1,ne_eq,not_false_eq_true,decide_true,i_t];exact no 1 ho M.le_refl (by unfold Vl.dict;rw[if_pos hodd])
 have h1:(((ps.length % 2:Nat):Int)=0):=by omega
 simp only[h1,ne_eq,not_true,decide_false,i_f];have hd0:Vl.dict ps=if Vl.namesOk ps=false then (Vl.ob0,1) else Vl.dictG [] (.mk 7 0 0 [] [] []) ps:=by unfold Vl.dict;rw[if_neg (by omega)]
 refine loop (fun vs W=>∃(i:Nat) (x:Value),vs=[x,.int .i64 i]∧i≤ps.length∧i % 2=0∧Vl.namesOk ps=Vl.namesOk (ps.drop i)∧OwnS M.A w W [obE b2 ob0 nilS nilS,.mem M]) (fun vs _=>ps.length - n1 vs) ⟨0,_,rfl,by omega,rfl,by simp,ho⟩ ?_;clear ho;rintro vs w2 ⟨i,x,rfl,hi,hi2,hnm,ho⟩ _;simp only[S_value_Dict_0,gd];rw[sl_len Tryz.underlying46 (hs.now (ho.hasM 1 rfl))];simp only[rs];by_cases hlt:(i:Int) < (ps.length:Int)
 ·have hi':i+1 < ps.length:=by omega
  have hi0:i < ps.length:=by omega
  simp only[hlt,decide_true,i_t];obtain⟨p,q,hp,hrp⟩:=kid_at hat hi0;have hp:OV M.A M.w p ps[i]:=hp;obtain⟨r1,_⟩:=hrp w2 (ho.hasM 1 rfl);obtain⟨pk',pc,pcs,rfl,hpa⟩:=hp.open;obtain⟨bq,oq,cq,rfl,hcq⟩:=sl_open (hs.now (ho.hasM 1 rfl)) (by omega);refine do_eq (run_ia Tryz.underlying46 szOb (by omega) (by omega)) |>.mpr ?_;rw[Int.toNat_natCast,fa_o0];have hk0:w2.cell? ⟨bq,oq+i*6,none⟩=some (.int .i64 ps[i].k):=by
   obtain⟨a,hal,hav,hget⟩:=OVs.get ps cs i hi0 hall;obtain⟨ak,ac,acs,he,haa⟩:=hav.open;have e:a=obC ps[i] ak ac:=by
    have e:a.toArray=(obC ps[i] ak ac).toArray:=by injection he
    simpa using congrArg Array.toList e
   have:=hcq (i*6+0) _ (hget 0 (.int .i64 ps[i].k) (by rw[e];rfl))
   rwa [Nat.add_zero] at this
  rw[l_cell nInt5 hk0];simp only[rs];rw[Vl.namesOk_step hi'] at hnm;by_cases h5:ps[i].k=5
  ·simp only[h5,ne_eq,not_true,decide_false,i_f];rw[wrap64_id (by omega) (by omega)];refine nextX ⟨i+2,x,by simp,by omega,by omega,?_,ho⟩ (by simp[n1,RowKit.intOf];omega);rw[hnm,h5];simp
  ·simp only[h5,ne_eq,not_false_eq_true,decide_true,i_t];refine no 1 ho M.le_refl ?_;rw[hd0,hnm,if_pos (by simp[h5])]
 ·have hil:i=ps.length:=by omega
  simp only[hlt,decide_false,i_f];have hnt:Vl.namesOk ps=true:=by rw[hnm,List.drop_eq_nil_of_le (by omega)];rfl
  rw[hnt] at hd0;simp only[Bool.true_eq_false,if_false] at hd0;rw[m_ob7];refine o_oba ho fun b5 w3 ho=>?_;refine ob_put 0 rfl rfl ho rfl fun w4 ho=>?_;refine o_mapNew ho fun bm w5 ho=>?_;clear hnm hi hi2 hlt hil;refine loop (fun vs W=>∃(i:Nat) (x:Value) (al:List (List UInt8×Value)) (o:Ob) (ok oc:Value) (N:Mem),vs=[x,.int .i64 i]∧i≤ps.length∧i % 2=0∧Vl.dict ps=Vl.dictG (al.map (·.1)) o (ps.drop i)∧Vl.Rise o.keys∧o.keys.length=o.kids.length ∧
    o.wt+Ob.wts (ps.drop i)≤6+Ob.wts ps∧(∀p∈al,p.2=.bool true)∧M.le N∧OV N.A N.w (obV o ok oc) o∧OwnS M.A w W [.map bm al,obE b5 o ok oc,obE b2 ob0 nilS nilS,.mem N]) (fun vs _=>ps.length - n1 vs)
   ⟨0,x,[],.mk 7 0 0 [] [] [],nilS,nilS,M,rfl,by omega,rfl,by simpa using hd0,List.Pairwise.nil,rfl,by simp[Ob.wt,Ob.wts,Pl.tot],by simp,M.le_refl,ObAt.ov (o:=.mk 7 0 0 [] [] []) (cs:=[]) ⟨SlA.nil _ _ _ _,SlA.nil _ _ _ _,OVs.nil⟩,ho⟩ ?_
  clear ho;rintro vs w6 ⟨i,y,al,o,ok,oc,N,rfl,hi,hi2,hd,hrise,hlen,hwt,hal,hle,hov,ho⟩ _;have hone:=hov.open;obtain⟨ok',oc',ocs,heq,hoa⟩:=hone;have e1:ok'=ok∧oc'=oc:=by
   have:(obC o ok oc).toArray=(obC o ok' oc').toArray:=by injection heq
   have:obC o ok oc=obC o ok' oc':=by simpa using congrArg Array.toList this
   simp only[obC,List.cons.injEq,true_and,and_true] at this;exact⟨this.1.symm,this.2.symm⟩
  obtain⟨rfl,rfl⟩:=e1;simp only[S_value_Dict_1,gd];have hsN:=hs.le hle;have hatN:=hat.le hle;rw[sl_len Tryz.underlying46 (hsN.now (ho.hasM 3 rfl))];simp only[rs];by_cases hlt:(i:Int) < (ps.length:Int)
  ·have hi':i+1 < ps.length:=by omega
   have hi0:i < ps.length:=by omega
   simp only[hlt,decide_true,i_t];have hst:=Vl.dictG_step (met:=al.map (·.1)) (o:=o) hi';have hws:=Vl.wts_step hi';refine join fun J hJ=>?_;obtain⟨bq,oq,cq,rfl,hcq⟩:=sl_open (hsN.now (ho.hasM 3 rfl)) (by omega);have cellAt:∀{W:World} (hW:N.has W) (m:Nat) (hm:m < ps.length) (j:Nat) (u:Value),(∀ak ac,(obC ps[m] ak ac)[j]?=some u)→W.cell? ⟨bq,oq+m*6+j,none⟩=some u:=by
    intro W hW m hm j u hu;obtain⟨a,hal,hav,hget⟩:=OVs.get ps cs m hm hall;obtain⟨ak,ac,acs,he,haa⟩:=hav.open;have e:a=obC ps[m] ak ac:=by
     have e:a.toArray=(obC ps[m] ak ac).toArray:=by injection he
     simpa using congrArg Array.toList e
    have:=Sl.cellAt (hsN.now hW) (m*6+j) _ (hget j u (by rw[e];exact hu ak ac))
    rwa [←Nat.add_assoc] at this
   have fin:∀(W:World) (N':Mem) (kv cv:Value),OwnS M.A w W [.map bm (al++[(ps[i].s,.bool true)]),obE b5 (if ps[i+1].k≠0 then Vl.put o ps[i].s ps[i+1] else o) kv cv,obE b2 ob0 nilS nilS,.mem N']→M.le N' →
     OV N'.A N'.w (obV (if ps[i+1].k≠0 then Vl.put o ps[i].s ps[i+1] else o) kv cv) (if ps[i+1].k≠0 then Vl.put o ps[i].s ps[i+1] else o)→ps[i].s ∉ al.map (·.1)→J [y] W:=by
    intro W N' kv cv ho hle' hov' hm;refine hJ _ _ fun _=>?_;simp only[S_value_Dict_2,gd,rs];rw[wrap64_id (by omega) (by omega)];have hpw:=Vl.put_wt o ps[i].s ps[i+1];have hkw:ps[i].s.length+1≤ps[i].wt:=by rw[Vl.wt_eq];omega
    have hpos:=ps[i+1].wt_pos;refine nextX ⟨i+2,y,al++[(ps[i].s,.bool true)],_,kv,cv,N',by simp,by omega,by omega,?_,?_,?_,?_,?_,hle',hov',ho⟩ (by simp[n1,RowKit.intOf];omega)
    ·rw[hd,hst,if_neg hm];simp
    ·split
     ·exact (Vl.rise_put hrise hlen).1
     ·exact hrise
    ·split
     ·exact (Vl.rise_put hrise hlen).2
     ·exact hlen
    ·split<;>omega
    ·intro p hp;rcases List.mem_append.1 hp with hp|hp
     ·exact hal p hp
     ·simp only[List.mem_singleton] at hp;rw[hp]
   refine do_eq (run_ia Tryz.underlying46 szOb (by omega) (by omega)) |>.mpr ?_;rw[Int.toNat_natCast,fa_o3,l_cell nStr5 (cellAt (ho.hasM 3 rfl) i hi0 3 _ fun _ _=>rfl)];refine do_eq (run_look (z:=.bool false) Tryz.underlying165 Tryz.underlying9 (by kernel_rfl) (ho.at_ 0 rfl) ps[i].s) |>.mpr ?_;by_cases hmem:ps[i].s∈al.map (·.1)
   ·have hl:lookA al ps[i].s=some (.bool true):=by
     cases hla:lookA al ps[i].s with
    |none=>exact absurd hmem (lookA_none.1 hla)
    |some u=>
      unfold lookA at hla;obtain⟨p,hp,rfl⟩:=Option.map_eq_some_iff.1 hla;rw[hal p (List.mem_of_find?_eq_some hp)]
    rw[hl];simp only[Bool.false_eq_true,if_false,Option.getD_some,i_t];have ho:OwnS M.A w w6 (obE b2 ob0 nilS nilS::.mem N::[]):=ho.tail.tail;exact no 9 ho hle (by rw[hd,hst,if_pos hmem])
   ·have hl:lookA al ps[i].s=none:=lookA_none.2 hmem;rw[hl];simp only[Bool.false_eq_true,if_false,Option.getD_none,i_f];refine o_mapAdd 0 Tryz.underlying165 Tryz.underlying9 ho rfl ps[i].s (.bool true) hl fun w7 ho=>?_;have ho:OwnS M.A w w7 [.map bm (al++[(ps[i].s,.bool true)]),obE b5 o ok' oc',obE b2 ob0 nilS nilS,.mem N]:=ho;rw[wrap64_id (by omega) (by omega),show (i:Int)+1=((i+1:Nat):Int) by omega];refine do_eq (run_ia Tryz.underlying46 szOb (by omega) (by omega)) |>.mpr ?_;have hk0:=cellAt (ho.hasM 3 rfl) (i+1) hi' 0 (.int .i64 ps[i+1].k) fun _ _=>rfl;rw[Nat.add_zero] at hk0;rw[Int.toNat_natCast,fa_o0,l_cell nInt5 hk0];simp only[rs];by_cases h0:ps[i+1].k=0
    ·simp only[h0,ne_eq,not_true,decide_false,i_f];refine fin w7 N ok' oc' ?_ hle ?_ hmem
     ·rw[if_neg (by simp[h0])];exact ho
     ·rw[if_neg (by simp[h0])];exact hov
    ·simp only[h0,ne_eq,not_false_eq_true,decide_true,i_t];obtain⟨x2,q2,hx2,hr2⟩:=kid_at hatN hi';have hx2:OV N.A N.w x2 ps[i+1]:=hx2;have hNW:∀W,Below w7.heap.size w7 W→N.has W:=fun W hW=>Mem.has_below (ho.hasM 3 rfl) hW;refine quiet ?_;refine q_at _ (fun W hW=>run_load_at ((ho.grow hW).agg 1 rfl aggOb)) ?_;refine q_add ?_;rw[wrap64_id (by omega) (by omega),show (i:Int)+1=((i+1:Nat):Int) by omega];refine q_at _ (fun W hW=>(hr2 W (hNW W hW)).1) ?_;refine q_at _ (fun W hW=>(hr2 W (hNW W hW)).2) ?_;intro w8 hW;have ho:=ho.grow hW;have hpw:=Vl.wt_eq ps[i];refine c_mem ho 3 rfl (with_ret o ps[i+1] _ _ ps[i].s N w8 (by omega) (ho.hasM 3 rfl) hov hx2 hrise hlen) fun z N2 w9 hle2 hz ho=>?_;obtain⟨zk,zc,zcs,rfl,hza⟩:=hz.open;refine ob_put 1 hza.keys.one hza.kids.one ho rfl fun w10 ho=>?_;refine fin w10 N2 zk zc ?_ (hle.trans hle2) ?_ hmem
     ·rw[if_pos (by simp[h0])];exact ho
     ·rw[if_pos (by simp[h0])];exact hz
  ·have hil:i=ps.length:=by omega
   simp only[hlt,decide_false,i_f];rw[List.drop_eq_nil_of_le (by omega)] at hd hwt;have hd:Vl.dict ps=Vl.right o:=hd;rw[ob_v ho 1 rfl];refine c_mem ho 3 rfl (clone_ret o _ N w6 (by omega) (ho.hasM 3 rfl) hov) fun z N2 w7 hle2 hz ho=>?_;refine c_mem ho 3 rfl (sound_ret o _ N2 w7 (by omega) (ho.hasM 3 rfl) hz) ?_;rintro _ N3 w8 hle3 ⟨t,rfl,ht⟩ ho;obtain⟨tk,tc,tcs,rfl,hta⟩:=ht.open;simp only[errV,ex];refine ob_put 2 hta.keys.one hta.kids.one ho rfl fun w9 ho=>?_;refine ret_ob2 2 ho rfl (hK _ _ N3 _ 3 ho rfl (hle.trans (hle2.trans hle3)) ⟨obV (Vl.right o).1 tk tc,?_,?_⟩)
   ·rw[hd];rfl
   ·rw[hd];exact ht
end
section
open Go
structure It where
 num:Int
 gen:Int
 obj:Ob
structure Dc where
 items:List It
 trailer:Ob
namespace Dk
def typeK:List UInt8:=[84,121,112,101]
def objStm:List UInt8:=[79,98,106,83,116,109]
def xref:List UInt8:=[88,82,101,102]
def rootK:List UInt8:=[82,111,111,116]
def infoK:List UInt8:=[73,110,102,111]
def idK:List UInt8:=[73,68]
def it0:It:=⟨0,0,Vl.ob0⟩
def dc0:Dc:=⟨[],Vl.ob0⟩
def kind (o:Ob):List UInt8:=if ((Vl.get o typeK).getD Vl.ob0).k≠5 then [] else ((Vl.get o typeK).getD Vl.ob0).s
def holds (o:Ob):Bool:=decide (o.k=9)&&(decide (kind o=objStm)||decide (kind o=xref))
def numbers (i:It):Bool:=decide (1≤i.num)&&decide (i.num≤8191)&&decide (0≤i.gen)&&decide (i.gen≤65535)
def content (i:It):Int:=if Vl.check 1 i.obj≠0 then Vl.check 1 i.obj else if i.obj.k=8∨holds i.obj=true then 10 else 0
def alone (i:It):Int:=if numbers i=false then 2 else content i
def itemsG (last:Option Int):List It→Int
|[]=>0
|i::l=>if numbers i=false then 2 else if last.any (fun n=>decide (i.num≤n)) then 9 else if content i≠0 then content i else itemsG (some i.num) l
def find (l:List It)(n:Int):Option It:=l.find? fun i=>decide (i.num=n)
def pick (x:Option It)(g:Int):Ob:=match x with
|none=>Vl.ob0
|some i=>if i.gen≠g then Vl.ob0 else i.obj
def follow (d:Dc)(o:Ob):Ob:=if o.k≠8 then o else pick (find d.items o.n) o.g
def path (d:Dc)(o:Ob):List (List UInt8)→Ob
|[]=>o
|k::ks=>match Vl.get o k with
 |none=>Vl.ob0
 |some v=>path d (follow d v) ks
def known (k:List UInt8):Bool:=decide (k=idK)||decide (k=infoK)||decide (k=rootK)
def root (d:Dc):Ob:=(Vl.get d.trailer rootK).getD Vl.ob0
def trail (d:Dc):Int:=
 if Vl.check 1 d.trailer≠0 then Vl.check 1 d.trailer
 else if d.trailer.k≠7 then 10
 else if d.trailer.keys.all known=false then 3
 else if (root d).k≠8∨(follow d (root d)).k≠7 then 22 else 0
def check (d:Dc):Int:=if itemsG none d.items≠0 then itemsG none d.items else trail d
def place (l:List It)(n:Int):Nat:=(l.takeWhile fun i=>decide (i.num < n)).length
def hit (l:List It)(n:Int):Bool:=match l[place l n]? with
|some i=>decide (i.num=n)
|none=>false
def lay (l:List It)(i:It):List It:=l.take (place l i.num)++i::l.drop (place l i.num+if hit l i.num then 1 else 0)
def right (d:Dc):Dc×Int:=if check d≠0 then (dc0,check d) else (d,0)
def put (d:Dc)(i:It):Dc×Int:=if check d≠0 then (dc0,check d) else if alone i≠0 then (dc0,alone i) else right ⟨lay d.items i,d.trailer⟩
end Dk
end
section
open Eng Go.RowKit Go.ChangeShapes Go.WideShapes
inductive Rws {α:Type} (R:List Value→α→Prop):List Value→List α→Prop
|nil:Rws R [] []
|cons {a rest:List Value} {x:α} {xs:List α}:R a x→Rws R rest xs→Rws R (a++rest) (x::xs)
section
variable {α:Type}{R R':List Value→α→Prop}
theorem Rws.snoc {a:List Value}{x:α}(hx:R a x):∀{cs:List Value} {xs:List α},Rws R cs xs→Rws R (cs++a) (xs++[x])
|_,_,.nil=>by
  have:=Rws.cons hx (Rws.nil (R:=R));simpa using this
|_,_,.cons h t=>by
  rw[List.append_assoc,List.cons_append];exact .cons h (Rws.snoc hx t)
theorem Rws.len {n:Nat}(hn:∀a x,R a x→a.length=n):∀{cs:List Value} {xs:List α},Rws R cs xs→cs.length=xs.length*n
|_,_,.nil=>by simp
|_,_,.cons h t=>by
  rw[List.length_append,hn _ _ h,Rws.len hn t,List.length_cons,Nat.add_mul];omega
theorem Rws.mono (h:∀a x,R a x→R' a x):∀{cs:List Value} {xs:List α},Rws R cs xs→Rws R' cs xs
|_,_,.nil=>.nil
|_,_,.cons hx t=>.cons (h _ _ hx) (Rws.mono h t)
theorem Rws.flat {c:α→List Value}:∀{cs:List Value} {xs:List α},Rws (fun cs x=>cs=c x) cs xs→cs=xs.flatMap c
|_,_,.nil=>rfl
|_,_,.cons hx t=>by rw[hx,Rws.flat t,List.flatMap_cons]
theorem Rws.get {n:Nat}(hn:∀a x,R a x→a.length=n):∀{cs:List Value} {xs:List α} (i:Nat) (hi:i < xs.length),Rws R cs xs→∃a,R a xs[i]∧∀j v,a[j]?=some v→cs[i*n+j]?=some v
|_,_,i,hi,.nil=>by simp at hi
|_,_,0,_,.cons (a:=a) (rest:=rest) hx t=>⟨a,hx,fun j v hj=>by
  rw[Nat.zero_mul,Nat.zero_add,List.getElem?_append_left (List.getElem?_eq_some_iff.1 hj).1];exact hj⟩
|_,_,i+1,hi,.cons (a:=a) (rest:=rest) hx t=>by
  obtain⟨b,hb,hc⟩:=Rws.get hn i (by simpa using hi) t;have hl:=hn _ _ hx;refine⟨b,hb,fun j v hj=>?_⟩;have e:(i+1)*n+j=a.length+(i*n+j):=by rw[hl,Nat.add_mul];omega
  rw[e,List.getElem?_append_right (by omega),show a.length+(i*n+j) - a.length=i*n+j by omega];exact hc j v hj
end
section
variable {H:Type}{enc:TypeId×Value→H}{W:World}{sp:Nat→Bool}{held:Bool}
theorem open_slice_of {E T:TypeId}{n:Nat}{α:Type}{R:List Value→α→Prop}{wt:α→Nat}(ht:Tryz.prog.underlying T=some (.slice E))(hc:Tryz.prog.cellsOf E=n)(hn:0 < n)
  (hel:∀fuel cs x,DataW.trod enc prog W 0 sp held fuel E cs=some x→∃a,R cs a∧cs.length=n∧wt a≤Rows.uptoBulk x.1)
  {fuel:Nat} {cs:List Value} {x:DataW H×List MemPlace} (h:DataW.trod enc prog W 0 sp held fuel T cs=some x) :
  ∃(v:Value) (ds:List Value) (xs:List α),cs=[v]∧SlA (InW W) W v n xs.length ds∧Rws R ds xs∧xs.length≤9223372036854775807∧(xs.map wt).sum+1≤Rows.uptoBulk x.1:=by
 rcases DataW.trod_slice ht h with ⟨rfl,rfl⟩|⟨a,len,cap,elems,rest,n',rfl,rfl,rfl,_,hlc,hcm,hel2,hat,_,_⟩
 ·exact⟨_,[],[],rfl,SlA.nil _ _ _ _,.nil,by simp,by simp[Rows.uptoBulk]⟩
 ·rw[hc] at hat;have step:∀k,k≤len→∃(cs:List Value) (os:List α),os.length=k∧cs.length=k*n∧Rws R cs os∧(∀j u,cs[j]?=some u→W.cell? (a.add j)=some u)∧(os.map wt).sum≤Rows.uptoBulkAll ((elems.take k).map (·.1)):=by
   intro k
   induction k with
  |zero=>intro _;exact⟨[],[],rfl,by simp,.nil,(fun j u hj=>by simp at hj),by simp[Rows.uptoBulkAll]⟩
  |succ k ihk=>
    intro hk;obtain⟨cs,os,h1,hcl,h2,h3,h4⟩:=ihk (by omega);have hki:k < elems.length:=by omega
    have hb:=hat k (by omega);rw[List.getElem?_eq_getElem hki,Option.bind_eq_some_iff] at hb;obtain⟨ck,hck,htr⟩:=hb;obtain⟨o,ho,hlo,hw⟩:=hel n' ck _ htr;refine⟨cs++ck,os++[o],by simp[h1],by rw[List.length_append,hcl,hlo,Nat.add_mul,Nat.one_mul],Rws.snoc ho h2,fun j u hj=>?_,?_⟩
    ·rcases Nat.lt_or_ge j cs.length with hj1|hj1
     ·rw[List.getElem?_append_left hj1] at hj;exact h3 j u hj
     ·rw[List.getElem?_append_right hj1] at hj;have hj6:j - cs.length < n:=by
       have:=(List.getElem?_eq_some_iff.1 hj).1;omega
      have:=(World.cells?_some hck).2.2 (j - cs.length) hj6;rw[←hj,←this,addr_add,show k*n+(j - cs.length)=j by omega]
    ·rw[List.take_succ_eq_append_getElem hki,List.map_append,List.map_append,bulkAll_append,List.sum_append];simp only[List.map_cons,List.map_nil,Rows.uptoBulkAll,List.sum_cons,List.sum_nil];omega
  obtain⟨cs,os,h1,hcl,h2,h3,h4⟩:=step len (Nat.le_refl _);refine⟨_,cs,os,rfl,?_,h2,?_,?_⟩
  ·rw[h1];exact SlA.of_cells hn (by rw[hcl]) h3 (fun b hb=>hb) hlc
  ·rw[h1];simp only[maxLen] at hcm;omega
  ·rw[←hel2,List.take_length] at h4;simp only[Rows.uptoBulk];omega
end
end
section
open Eng Go.RowKit
def itC (i:It)(vk vc:Value):List Value:=.int .i64 i.num::.int .i64 i.gen::obC i.obj vk vc
def itV (i:It)(vk vc:Value):Value:=.agg (itC i vk vc).toArray
def itE (b:Nat)(i:It)(vk vc:Value):Ent:=.cells b (itC i vk vc) 89
def itR (A:Nat→Prop)(w:World)(a:List Value)(i:It):Prop:=∃vk vc,a=itC i vk vc∧OV A w (obV i.obj vk vc) i.obj
abbrev IVs (A:Nat→Prop)(w:World)(cs:List Value)(l:List It):Prop:=Rws (itR A w) cs l
def dcC (d:Dc)(vi vk vc:Value):List Value:=vi::obC d.trailer vk vc
def dcV (d:Dc)(vi vk vc:Value):Value:=.agg (dcC d vi vk vc).toArray
def dcE (b:Nat)(d:Dc)(vi vk vc:Value):Ent:=.cells b (dcC d vi vk vc) 50
structure DocAt (A:Nat→Prop) (w:World) (d:Dc) (vi vk vc:Value) (cs:List Value):Prop where
 items:SlA A w vi 8 d.items.length cs
 all:IVs A w cs d.items
 trailer:OV A w (obV d.trailer vk vc) d.trailer
def DV (A:Nat→Prop)(w:World)(v:Value)(d:Dc):Prop:=∃vi vk vc cs,v=dcV d vi vk vc∧DocAt A w d vi vk vc cs
theorem itR_len {A:Nat→Prop}{w:World}:∀a i,itR A w a i→a.length=8:=by
 rintro a i ⟨vk,vc,rfl,_⟩;rfl
theorem obV_inj {o p:Ob}{vk vc xk xc:Value}(h:obV o vk vc=obV p xk xc):vk=xk∧vc=xc:=by
 have:(obC o vk vc).toArray=(obC p xk xc).toArray:=by injection h
 have:obC o vk vc=obC p xk xc:=by simpa using congrArg Array.toList this
 simp only[obC,List.cons.injEq,and_true] at this;exact⟨this.2.2.2.2.1,this.2.2.2.2.2⟩
theorem OV.slices {A:Nat→Prop}{w:World}{o:Ob}{vk vc:Value}(h:OV A w (obV o vk vc) o):∃cs,ObAt A w o vk vc cs:=by
 obtain⟨xk,xc,cs,e,ha⟩:=h.open;obtain⟨rfl,rfl⟩:=obV_inj e;exact⟨cs,ha⟩
theorem OV.oneK {A:Nat→Prop}{w:World}{o:Ob}{vk vc:Value}(h:OV A w (obV o vk vc) o):vk.oneCell'=true:=by obtain⟨cs,ha⟩:=h.slices;exact ha.keys.one
theorem OV.oneC {A:Nat→Prop}{w:World}{o:Ob}{vk vc:Value}(h:OV A w (obV o vk vc) o):vc.oneCell'=true:=by obtain⟨cs,ha⟩:=h.slices;exact ha.kids.one
theorem itC_one (i:It){vk vc:Value}(hk:vk.oneCell'=true)(hc:vc.oneCell'=true):∀v∈itC i vk vc,v.oneCell'=true:=by
 intro v hv;simp only[itC,List.mem_cons] at hv;rcases hv with rfl|rfl|hv
 ·rfl
 ·rfl
 ·exact obC_one i.obj hk hc v hv
theorem dcC_one (d:Dc){vi vk vc:Value}(hi:vi.oneCell'=true)(hk:vk.oneCell'=true)(hc:vc.oneCell'=true):∀v∈dcC d vi vk vc,v.oneCell'=true:=by
 intro v hv;simp only[dcC,List.mem_cons] at hv;rcases hv with rfl|hv
 ·exact hi
 ·exact obC_one d.trailer hk hc v hv
theorem IVs.one {A:Nat→Prop}{w:World}:∀{cs:List Value} {l:List It},IVs A w cs l→∀x∈cs,x.oneCell'=true
|_,_,.nil=>by intro x hx;cases hx
|_,_,.cons h t=>by
  obtain⟨vk,vc,rfl,ho⟩:=h;intro x hx;rcases List.mem_append.1 hx with hx|hx
  ·exact itC_one _ ho.oneK ho.oneC x hx
  ·exact IVs.one t x hx
theorem itR.le {M N:Mem}(h:M.le N){a:List Value}{i:It}(hi:itR M.A M.w a i):itR N.A N.w a i:=by
 obtain⟨vk,vc,rfl,ho⟩:=hi;exact⟨vk,vc,rfl,ho.le h⟩
theorem IVs.le {M N:Mem}(h:M.le N){cs:List Value}{l:List It}(hl:IVs M.A M.w cs l):IVs N.A N.w cs l:=Rws.mono (fun _ _=>itR.le h) hl
theorem DocAt.le {M N:Mem}(h:M.le N){d:Dc}{vi vk vc:Value}{cs:List Value}(hd:DocAt M.A M.w d vi vk vc cs):DocAt N.A N.w d vi vk vc cs:=⟨hd.items.le h,IVs.le h hd.all,hd.trailer.le h⟩
theorem DocAt.dv {A:Nat→Prop}{w:World}{d:Dc}{vi vk vc:Value}{cs:List Value}(h:DocAt A w d vi vk vc cs):DV A w (dcV d vi vk vc) d:=⟨vi,vk,vc,cs,rfl,h⟩
theorem DV.le {M N:Mem}(h:M.le N){v:Value}{d:Dc}(hd:DV M.A M.w v d):DV N.A N.w v d:=by
 obtain⟨vi,vk,vc,cs,rfl,ha⟩:=hd;exact (ha.le h).dv
theorem aggIt:aggN prog 89=some 8:=by kernel_rfl
theorem szIt:(Tryz.prog.info? 89).map (·.size)=some 8:=by kernel_rfl
theorem aggDc:aggN prog 50=some 7:=by kernel_rfl
theorem szDc:(Tryz.prog.info? 50).map (·.size)=some 7:=by kernel_rfl
theorem nSlIt:notAgg prog 45=true:=by kernel_rfl
theorem elIt:elB prog 89 8 104=true:=by kernel_rfl
theorem fo_i0:fOff prog 89 0=some 0:=by kernel_rfl
theorem fo_i1:fOff prog 89 1=some 1:=by kernel_rfl
theorem fo_i2:fOff prog 89 2=some 2:=by kernel_rfl
theorem fo_d0:fOff prog 50 0=some 0:=by kernel_rfl
theorem fo_d1:fOff prog 50 1=some 1:=by kernel_rfl
section
variable {w:World}{PK:PKT}{K:VWP}{S:Nat→Prop}{w0:World}{L:List Ent}
theorem fa_i0 {b off:Nat}:DoX prog (mFA 89 (.pointer (some ⟨b,off,none⟩)) 0) w PK K=K (.pointer (some ⟨b,off,none⟩)) w:=f_addr fo_i0
theorem fa_i1 {b off:Nat}:DoX prog (mFA 89 (.pointer (some ⟨b,off,none⟩)) 1) w PK K=K (.pointer (some ⟨b,off+1,none⟩)) w:=f_addr fo_i1
theorem fa_i2 {b off:Nat}:DoX prog (mFA 89 (.pointer (some ⟨b,off,none⟩)) 2) w PK K=K (.pointer (some ⟨b,off+2,none⟩)) w:=f_addr fo_i2
theorem fa_d0 {b off:Nat}:DoX prog (mFA 50 (.pointer (some ⟨b,off,none⟩)) 0) w PK K=K (.pointer (some ⟨b,off,none⟩)) w:=f_addr fo_d0
theorem fa_d1 {b off:Nat}:DoX prog (mFA 50 (.pointer (some ⟨b,off,none⟩)) 1) w PK K=K (.pointer (some ⟨b,off+1,none⟩)) w:=f_addr fo_d1
theorem o_itb (i:It){vk vc:Value}(hk:vk.oneCell'=true)(hc:vc.oneCell'=true)(ho:OwnS S w0 w L)(k:∀b w',OwnS S w0 w' (itE b i vk vc::L)→K (.pointer (some ⟨b,0,none⟩)) w'):DoX prog (mBox 89 (itV i vk vc)) w PK K:=by
 cases vk<;>first|(cases hk;done)|skip
 all_goals cases vc<;>first|(cases hc;done)|exact o_new (fun b=>.pointer (some ⟨b,0,none⟩)) (itC i _ _) 89 (fun _=>by kernel_rfl) ho k
theorem o_ita (ho:OwnS S w0 w L)(k:∀b w',OwnS S w0 w' (itE b Dk.it0 nilS nilS::L)→K (.pointer (some ⟨b,0,none⟩)) w'):DoX prog (mAlloc 89) w PK K:=
 o_new (fun b=>.pointer (some ⟨b,0,none⟩)) (itC Dk.it0 nilS nilS) 89 (fun _=>by kernel_rfl) ho k
theorem it_put (j:Nat){b:Nat}{i i':It}{vk vc vk' vc':Value}(hk:vk'.oneCell'=true)(hc:vc'.oneCell'=true)(ho:OwnS S w0 w L)(hi:L[j]?=some (itE b i vk vc))(k:∀w',OwnS S w0 w' (L.set j (itE b i' vk' vc'))→K undef w') :
  DoX prog (mStore 89 (.pointer (some ⟨b,0,none⟩)) (itV i' vk' vc')) w PK K:=o_put j ho hi (new:=itC i' vk' vc') szIt (itC_one i' hk hc) rfl k
theorem it_num (ho:OwnS S w0 w L)(j:Nat){b:Nat}{i:It}{vk vc:Value}(hi:L[j]?=some (itE b i vk vc)):DoX prog (mLoad 3 (.pointer (some ⟨b,0,none⟩))) w PK K=K (.int .i64 i.num) w:=l_cell nInt5 (ho.cell j hi 0 rfl)
theorem it_gen (ho:OwnS S w0 w L)(j:Nat){b:Nat}{i:It}{vk vc:Value}(hi:L[j]?=some (itE b i vk vc)):DoX prog (mLoad 3 (.pointer (some ⟨b,0+1,none⟩))) w PK K=K (.int .i64 i.gen) w:=l_cell nInt5 (ho.cell j hi 1 rfl)
theorem it_k (ho:OwnS S w0 w L)(j:Nat){b:Nat}{i:It}{vk vc:Value}(hi:L[j]?=some (itE b i vk vc)):DoX prog (mLoad 3 (.pointer (some ⟨b,0+2,none⟩))) w PK K=K (.int .i64 i.obj.k) w:=l_cell nInt5 (ho.cell j hi 2 rfl)
theorem it_obj (ho:OwnS S w0 w L)(j:Nat){b:Nat}{i:It}{vk vc:Value}(hi:L[j]?=some (itE b i vk vc)):DoX prog (mLoad 48 (.pointer (some ⟨b,0+2,none⟩))) w PK K=K (obV i.obj vk vc) w:=
 l_at (ho.subAgg j hi (0+2) (obC i.obj vk vc) rfl aggOb)
theorem it_v (ho:OwnS S w0 w L)(j:Nat){b:Nat}{i:It}{vk vc:Value}(hi:L[j]?=some (itE b i vk vc)):DoX prog (mLoad 89 (.pointer (some ⟨b,0,none⟩))) w PK K=K (itV i vk vc) w:=l_at (ho.agg j hi aggIt)
theorem it_putO (j:Nat){b:Nat}{i:It}{o:Ob}{vk vc vk' vc':Value}(hk:vk'.oneCell'=true)(hc:vc'.oneCell'=true)(ho:OwnS S w0 w L)(hi:L[j]?=some (itE b i vk vc))(k:∀w',OwnS S w0 w' (L.set j (itE b ⟨i.num,i.gen,o⟩ vk' vc'))→K undef w') :
  DoX prog (mStore 48 (.pointer (some ⟨b,0+2,none⟩)) (obV o vk' vc')) w PK K:=o_putAt j ho hi (new:=obC o vk' vc') szOb (obC_one o hk hc) (by show 0+2+6≤8;omega) k
theorem o_dcb (d:Dc){vi vk vc:Value}(hi:vi.oneCell'=true)(hk:vk.oneCell'=true)(hc:vc.oneCell'=true)(ho:OwnS S w0 w L)(k:∀b w',OwnS S w0 w' (dcE b d vi vk vc::L)→K (.pointer (some ⟨b,0,none⟩)) w'):DoX prog (mBox 50 (dcV d vi vk vc)) w PK K:=by
 cases vi<;>first|(cases hi;done)|skip
 all_goals cases vk<;>first|(cases hk;done)|skip
 all_goals cases vc<;>first|(cases hc;done)|exact o_new (fun b=>.pointer (some ⟨b,0,none⟩)) (dcC d _ _ _) 50 (fun _=>by kernel_rfl) ho k
theorem o_dca (ho:OwnS S w0 w L)(k:∀b w',OwnS S w0 w' (dcE b Dk.dc0 nilS nilS nilS::L)→K (.pointer (some ⟨b,0,none⟩)) w'):DoX prog (mAlloc 50) w PK K:=
 o_new (fun b=>.pointer (some ⟨b,0,none⟩)) (dcC Dk.dc0 nilS nilS nilS) 50 (fun _=>by kernel_rfl) ho k
theorem dc_put (j:Nat){b:Nat}{d d':Dc}{vi vk vc vi' vk' vc':Value}(hi1:vi'.oneCell'=true)(hk:vk'.oneCell'=true)(hc:vc'.oneCell'=true)(ho:OwnS S w0 w L)(hi:L[j]?=some (dcE b d vi vk vc))(k:∀w',OwnS S w0 w' (L.set j (dcE b d' vi' vk' vc'))→K undef w') :
  DoX prog (mStore 50 (.pointer (some ⟨b,0,none⟩)) (dcV d' vi' vk' vc')) w PK K:=o_put j ho hi (new:=dcC d' vi' vk' vc') szDc (dcC_one d' hi1 hk hc) rfl k
theorem dc_items (ho:OwnS S w0 w L)(j:Nat){b:Nat}{d:Dc}{vi vk vc:Value}(hi:L[j]?=some (dcE b d vi vk vc)):DoX prog (mLoad 45 (.pointer (some ⟨b,0,none⟩))) w PK K=K vi w:=l_cell nSlIt (ho.cell j hi 0 rfl)
theorem dc_tr (ho:OwnS S w0 w L)(j:Nat){b:Nat}{d:Dc}{vi vk vc:Value}(hi:L[j]?=some (dcE b d vi vk vc)):DoX prog (mLoad 48 (.pointer (some ⟨b,0+1,none⟩))) w PK K=K (obV d.trailer vk vc) w:=
 l_at (ho.subAgg j hi (0+1) (obC d.trailer vk vc) rfl aggOb)
theorem dc_trk (ho:OwnS S w0 w L)(j:Nat){b:Nat}{d:Dc}{vi vk vc:Value}(hi:L[j]?=some (dcE b d vi vk vc)):DoX prog (mLoad 3 (.pointer (some ⟨b,0+1,none⟩))) w PK K=K (.int .i64 d.trailer.k) w:=l_cell nInt5 (ho.cell j hi 1 rfl)
theorem dc_trkeys (ho:OwnS S w0 w L)(j:Nat){b:Nat}{d:Dc}{vi vk vc:Value}(hi:L[j]?=some (dcE b d vi vk vc)):DoX prog (mLoad 23 (.pointer (some ⟨b,0+1+4,none⟩))) w PK K=K vk w:=l_cell nSlS5 (ho.cell j hi 5 rfl)
theorem dc_v (ho:OwnS S w0 w L)(j:Nat){b:Nat}{d:Dc}{vi vk vc:Value}(hi:L[j]?=some (dcE b d vi vk vc)):DoX prog (mLoad 50 (.pointer (some ⟨b,0,none⟩))) w PK K=K (dcV d vi vk vc) w:=l_at (ho.agg j hi aggDc)
theorem m_dc0:DoX prog (mBuild 50 #[]) w PK K=K (dcV Dk.dc0 nilS nilS nilS) w:=do_eq (by kernel_rfl)
theorem fld_k {o:Ob}{vk vc:Value}:DoX prog (mFld 48 (obV o vk vc) 0) w PK K=K (.int .i64 o.k) w:=do_eq (by kernel_rfl)
end
theorem dc0_at (M:Mem):DocAt M.A M.w Dk.dc0 nilS nilS nilS []:=⟨SlA.nil _ _ _ _,.nil,ob0_ov M⟩
theorem item_at {M:Mem}{vi:Value}{l:List It}{cs:List Value}(hs:SlA M.A M.w vi 8 l.length cs)(hall:IVs M.A M.w cs l){i:Nat}(hi:i < l.length) :
  ∃(vk vc:Value) (b off:Nat),OV M.A M.w (obV l[i].obj vk vc) l[i].obj∧∀W,M.has W→(mIA 45 vi (.int .i64 (i:Int))).run prog W=.ok (.value (.pointer (some ⟨b,off,none⟩))) W∧∀j u,(itC l[i] vk vc)[j]?=some u→W.cell? ⟨b,off+j,none⟩=some u:=by
 obtain⟨b,off,cap,rfl,_⟩:=sl_open hs.1 (by omega);obtain⟨a,⟨vk,vc,rfl,ho⟩,hget⟩:=Rws.get itR_len i hi hall;refine⟨vk,vc,b,off+i*8,ho,fun W hW=>⟨?_,fun j u hj=>?_⟩⟩
 ·have:=run_ia (P:=prog) (T:=45) (b:=b) (off:=off) (cap:=cap) (n:=l.length) (k:=.i64) (i:=(i:Int)) (w:=W) Tryz.underlying45 szIt (by omega) (by omega);rw[Int.toNat_natCast] at this;exact this
 ·have:=Sl.cellAt (hs.now hW) (i*8+j) u (hget j u hj)
  rwa [←Nat.add_assoc] at this
theorem run_it {W:World}{b off:Nat}{i:It}{vk vc:Value}(h:∀j u,(itC i vk vc)[j]?=some u→W.cell? ⟨b,off+j,none⟩=some u):(mLoad 89 (.pointer (some ⟨b,off,none⟩))).run prog W=.ok (.value (itV i vk vc)) W:=
 run_load_at (AtV.agg aggIt (cs:=itC i vk vc) rfl h)
end
section
open Eng
def S_docs_kind (t0:Value)(w:World)(K:Ending→World→Prop):Prop:=
 DoX prog (mBox 48 t0) w (pk K) fun t1 w=>
 DoX prog (mLoad 48 t1) w (pk K) fun t6 w=>
 CallX prog 99 #[t6,(.string ⟨#[84,121,112,101]⟩)] w (pk K) fun t7 w=>
 DoX prog (mExt t7 0) w (pk K) fun t8 w=>
 DoX prog (mExt t7 1) w (pk K) fun t9 w=>
 DoX prog (mAlloc 48) w (pk K) fun t3 w=>
 DoX prog (mStore 48 t3 t8) w (pk K) fun _ w=>
 DoX prog (mFA 48 t3 0) w (pk K) fun t10 w=>
 DoX prog (mLoad 3 t10) w (pk K) fun t11 w=>
 DoX prog (mEq .neq 3 (.tmp 11) (.const (.int .i64 5)) t11 (.int .i64 5)) w (pk K) fun t12 w=>
 IfX t12 (K (.returned (.string ⟨#[]⟩)) w) (DoX prog (mFA 48 t3 3) w (pk K) fun t13 w=>
 DoX prog (mLoad 9 t13) w (pk K) fun t14 w=>
 K (.returned t14) w)
theorem S_docs_kind_eq (t0:Value)(w:World)(K:Ending→World→Prop):wpX prog 15 [] [] none (bodyOf Tryz.f159) (topQ prog [.tmp 2] K) (startX [t0]) [] w=S_docs_kind t0 w K:=by kernel_rfl
theorem S_docs_kind_ok {t0:Value}{w:World}{K:Ending→World→Prop}(h:S_docs_kind t0 w K):Calls prog 159 #[t0] w K:=
 calls_of_wpX Tryz.func159 rfl rfl rfl rfl (Eq.mpr (S_docs_kind_eq t0 w K) h)
def S_docs_holds (t0:Value)(w:World)(K:Ending→World→Prop):Prop:=
 DoX prog (mBox 48 t0) w (pk K) fun t1 w=>
 DoX prog (mFA 48 t1 0) w (pk K) fun t3 w=>
 DoX prog (mLoad 3 t3) w (pk K) fun t4 w=>
 DoX prog (mEq .eql 3 (.tmp 4) (.const (.int .i64 9)) t4 (.int .i64 9)) w (pk K) fun t5 w=>
 GDo t5 true (fun E=>DoX prog (mLoad 48 t1) w (pk K) E) w fun t7 w=>
 GDo t5 true (fun E=>CallX prog 159 #[t7] w (pk K) E) w fun t8 w=>
 GDo t5 true (fun E=>DoX prog (mEq .eql 9 (.tmp 8) (.const (.string ⟨#[79,98,106,83,116,109]⟩)) t8 (.string ⟨#[79,98,106,83,116,109]⟩)) w (pk K) E) w fun t9 w=>
 GDo t5 true (fun E=>E t9 w) w fun t10 w=>
 GDo t10 false (fun E=>DoX prog (mLoad 48 t1) w (pk K) E) w fun t11 w=>
 GDo t10 false (fun E=>CallX prog 159 #[t11] w (pk K) E) w fun t12 w=>
 GDo t10 false (fun E=>DoX prog (mEq .eql 9 (.tmp 12) (.const (.string ⟨#[88,82,101,102]⟩)) t12 (.string ⟨#[88,82,101,102]⟩)) w (pk K) E) w fun t13 w=>
 GDo t5 true (fun E=>DoX prog (mPick t10 (.bool true) t13) w (pk K) E) w fun t14 w=>
 DoX prog (mPick t5 t14 (.bool false)) w (pk K) fun t15 w=>
 K (.returned t15) w
theorem S_docs_holds_eq (t0:Value)(w:World)(K:Ending→World→Prop):wpX prog 16 [] [] none (bodyOf Tryz.f130) (topQ prog [.tmp 2] K) (startX [t0]) [] w=S_docs_holds t0 w K:=by kernel_rfl
theorem S_docs_holds_ok {t0:Value}{w:World}{K:Ending→World→Prop}(h:S_docs_holds t0 w K):Calls prog 130 #[t0] w K:=
 calls_of_wpX Tryz.func130 rfl rfl rfl rfl (Eq.mpr (S_docs_holds_eq t0 w K) h)
def S_docs_numbers (t0:Value)(w:World)(K:Ending→World→Prop):Prop:=
 DoX prog (mBox 89 t0) w (pk K) fun t1 w=>
 DoX prog (mFA 89 t1 0) w (pk K) fun t3 w=>
 DoX prog (mLoad 3 t3) w (pk K) fun t4 w=>
 DoX prog (mBin .geq 3 t4 (.int .i64 1)) w (pk K) fun t5 w=>
 GDo t5 true (fun E=>DoX prog (mFA 89 t1 0) w (pk K) E) w fun t7 w=>
 GDo t5 true (fun E=>DoX prog (mLoad 3 t7) w (pk K) E) w fun t8 w=>
 GDo t5 true (fun E=>DoX prog (mBin .leq 3 t8 (.int .i64 8191)) w (pk K) E) w fun t9 w=>
 DoX prog (mPick t5 t9 (.bool false)) w (pk K) fun t10 w=>
 GDo t10 true (fun E=>DoX prog (mFA 89 t1 1) w (pk K) E) w fun t12 w=>
 GDo t10 true (fun E=>DoX prog (mLoad 3 t12) w (pk K) E) w fun t13 w=>
 GDo t10 true (fun E=>DoX prog (mBin .geq 3 t13 (.int .i64 0)) w (pk K) E) w fun t14 w=>
 DoX prog (mPick t10 t14 (.bool false)) w (pk K) fun t15 w=>
 GDo t15 true (fun E=>DoX prog (mFA 89 t1 1) w (pk K) E) w fun t17 w=>
 GDo t15 true (fun E=>DoX prog (mLoad 3 t17) w (pk K) E) w fun t18 w=>
 GDo t15 true (fun E=>DoX prog (mBin .leq 3 t18 (.int .i64 65535)) w (pk K) E) w fun t19 w=>
 DoX prog (mPick t15 t19 (.bool false)) w (pk K) fun t20 w=>
 K (.returned t20) w
theorem S_docs_numbers_eq (t0:Value)(w:World)(K:Ending→World→Prop):wpX prog 21 [] [] none (bodyOf Tryz.f95) (topQ prog [.tmp 2] K) (startX [t0]) [] w=S_docs_numbers t0 w K:=by kernel_rfl
theorem S_docs_numbers_ok {t0:Value}{w:World}{K:Ending→World→Prop}(h:S_docs_numbers t0 w K):Calls prog 95 #[t0] w K:=
 calls_of_wpX Tryz.func95 rfl rfl rfl rfl (Eq.mpr (S_docs_numbers_eq t0 w K) h)
def S_docs_content (t0:Value)(w:World)(K:Ending→World→Prop):Prop:=
 DoX prog (mBox 89 t0) w (pk K) fun t1 w=>
 DoX prog (mFA 89 t1 2) w (pk K) fun t4 w=>
 DoX prog (mLoad 48 t4) w (pk K) fun t5 w=>
 CallX prog 78 #[t5] w (pk K) fun t6 w=>
 DoX prog (mEq .neq 30 (.tmp 7) (.const (.int .i64 0)) t6 (.int .i64 0)) w (pk K) fun t8 w=>
 IfX t8 (K (.returned t6) w) (DoX prog (mFA 89 t1 2) w (pk K) fun t10 w=>
 DoX prog (mFA 48 t10 0) w (pk K) fun t11 w=>
 DoX prog (mLoad 3 t11) w (pk K) fun t12 w=>
 DoX prog (mEq .eql 3 (.tmp 12) (.const (.int .i64 8)) t12 (.int .i64 8)) w (pk K) fun t13 w=>
 GDo t13 false (fun E=>DoX prog (mFA 89 t1 2) w (pk K) E) w fun t15 w=>
 GDo t13 false (fun E=>DoX prog (mLoad 48 t15) w (pk K) E) w fun t16 w=>
 GDo t13 false (fun E=>CallX prog 130 #[t16] w (pk K) E) w fun t17 w=>
 DoX prog (mPick t13 (.bool true) t17) w (pk K) fun t18 w=>
 IfX t18 (K (.returned (.int .i64 10)) w) (K (.returned (.int .i64 0)) w))
theorem S_docs_content_eq (t0:Value)(w:World)(K:Ending→World→Prop):wpX prog 19 [] [] none (bodyOf Tryz.f96) (topQ prog [.tmp 2] K) (startX [t0]) [] w=S_docs_content t0 w K:=by kernel_rfl
theorem S_docs_content_ok {t0:Value}{w:World}{K:Ending→World→Prop}(h:S_docs_content t0 w K):Calls prog 96 #[t0] w K:=
 calls_of_wpX Tryz.func96 rfl rfl rfl rfl (Eq.mpr (S_docs_content_eq t0 w K) h)
def S_docs_alone (t0:Value)(w:World)(K:Ending→World→Prop):Prop:=
 DoX prog (mBox 89 t0) w (pk K) fun t1 w=>
 DoX prog (mLoad 89 t1) w (pk K) fun t3 w=>
 CallX prog 95 #[t3] w (pk K) fun t4 w=>
 DoX prog (mUn .not t4) w (pk K) fun t5 w=>
 IfX t5 (K (.returned (.int .i64 2)) w) (DoX prog (mLoad 89 t1) w (pk K) fun t6 w=>
 CallX prog 96 #[t6] w (pk K) fun t7 w=>
 K (.returned t7) w)
theorem S_docs_alone_eq (t0:Value)(w:World)(K:Ending→World→Prop):wpX prog 8 [] [] none (bodyOf Tryz.f134) (topQ prog [.tmp 2] K) (startX [t0]) [] w=S_docs_alone t0 w K:=by kernel_rfl
theorem S_docs_alone_ok {t0:Value}{w:World}{K:Ending→World→Prop}(h:S_docs_alone t0 w K):Calls prog 134 #[t0] w K:=
 calls_of_wpX Tryz.func134 rfl rfl rfl rfl (Eq.mpr (S_docs_alone_eq t0 w K) h)
def S_docs_items_0 (t0 t6 t7 t8:Value)(w:World)(N1:List Value→World→Prop)(K:Ending→World→Prop):Prop:=
 DoX prog (mBin .lss 3 t8 t7) w (pk K) fun t9 w=>
 IfX t9 (DoX prog (mIA 45 t6 t8) w (pk K) fun t11 w=>
 DoX prog (mLoad 89 t11) w (pk K) fun t12 w=>
 DoX prog (mAlloc 89) w (pk K) fun t4 w=>
 DoX prog (mStore 89 t4 t12) w (pk K) fun _ w=>
 DoX prog (mLoad 89 t4) w (pk K) fun t14 w=>
 CallX prog 95 #[t14] w (pk K) fun t15 w=>
 DoX prog (mUn .not t15) w (pk K) fun t16 w=>
 IfX t16 (K (.returned (.int .i64 2)) w) (QuietX w (fun C2=>
 QDo prog C2 (mBin .gtr 3 t8 (.int .i64 0)) fun t19=>
 GQ t19 true (fun E=>QDo prog C2 (mFA 89 t4 0) E) fun t21=>
 GQ t19 true (fun E=>QDo prog C2 (mLoad 3 t21) E) fun t22=>
 GQ t19 true (fun E=>E t0) fun t23=>
 GQ t19 true (fun E=>E t8) fun t24=>
 GQ t19 true (fun E=>QDo prog C2 (mBin .sub 3 t24 (.int .i64 1)) E) fun t25=>
 GQ t19 true (fun E=>QDo prog C2 (mIA 45 t23 t25) E) fun t26=>
 GQ t19 true (fun E=>QDo prog C2 (mFA 89 t26 0) E) fun t27=>
 GQ t19 true (fun E=>QDo prog C2 (mLoad 3 t27) E) fun t28=>
 GQ t19 true (fun E=>QDo prog C2 (mBin .leq 3 t22 t28) E) fun t29=>
 QDo prog C2 (mPick t19 t29 (.bool false)) fun t30=>
 ∀w,C2 w →
 IfX t30 (K (.returned (.int .i64 9)) w) (DoX prog (mLoad 89 t4) w (pk K) fun t31 w=>
 CallX prog 96 #[t31] w (pk K) fun t32 w=>
 DoX prog (mEq .neq 30 (.tmp 33) (.const (.int .i64 0)) t32 (.int .i64 0)) w (pk K) fun t34 w=>
 IfX t34 (K (.returned t32) w) (DoX prog (mBin .add 3 t8 (.int .i64 1)) w (pk K) fun t36 w=>
 N1 [t36] w))))) (K (.returned (.int .i64 0)) w)
def S_docs_items (t0:Value)(w:World)(K:Ending→World→Prop):Prop:=
 DoX prog (mB .len #[45] 3 #[false] #[t0]) w (pk K) fun t7 w=>
 LoopX [(.int .i64 0)] w (fun vs1 w N1=>∀_:Sg,S_docs_items_0 t0 t0 t7 (vs1.getD 0 undef) w N1 K)
theorem S_docs_items_eq (t0:Value)(w:World)(K:Ending→World→Prop):wpX prog 37 [] [(2,[8])] none (bodyOf Tryz.f65) (topQ prog [.tmp 2] K) (startX [t0]) [] w=S_docs_items t0 w K:=by kernel_rfl
theorem S_docs_items_ok {t0:Value}{w:World}{K:Ending→World→Prop}(h:S_docs_items t0 w K):Calls prog 65 #[t0] w K:=
 calls_of_wpX Tryz.func65 rfl rfl rfl rfl (Eq.mpr (S_docs_items_eq t0 w K) h)
def S_docs_trail_0 (t1 t20 t21 t22:Value)(w:World)(N1:List Value→World→Prop)(K:Ending→World→Prop):Prop:=
 DoX prog (mBin .lss 3 t22 t21) w (pk K) fun t23 w=>
 IfX t23 (DoX prog (mIA 23 t20 t22) w (pk K) fun t24 w=>
 DoX prog (mLoad 9 t24) w (pk K) fun t25 w=>
 CallX prog 98 #[] w (pk K) fun t26 w=>
 CallX prog 97 #[t26,t25] w (pk K) fun t28 w=>
 DoX prog (mUn .not t28) w (pk K) fun t29 w=>
 IfX t29 (K (.returned (.int .i64 3)) w) (DoX prog (mBin .add 3 t22 (.int .i64 1)) w (pk K) fun t30 w=>
 N1 [t30] w)) (DoX prog (mFA 50 t1 1) w (pk K) fun t32 w=>
 DoX prog (mLoad 48 t32) w (pk K) fun t33 w=>
 CallX prog 99 #[t33,(.string ⟨#[82,111,111,116]⟩)] w (pk K) fun t34 w=>
 DoX prog (mExt t34 0) w (pk K) fun t35 w=>
 DoX prog (mExt t34 1) w (pk K) fun t36 w=>
 DoX prog (mAlloc 48) w (pk K) fun t6 w=>
 DoX prog (mStore 48 t6 t35) w (pk K) fun _ w=>
 DoX prog (mFA 48 t6 0) w (pk K) fun t37 w=>
 DoX prog (mLoad 3 t37) w (pk K) fun t38 w=>
 DoX prog (mEq .neq 3 (.tmp 38) (.const (.int .i64 8)) t38 (.int .i64 8)) w (pk K) fun t39 w=>
 GDo t39 false (fun E=>DoX prog (mLoad 50 t1) w (pk K) E) w fun t41 w=>
 GDo t39 false (fun E=>DoX prog (mLoad 48 t6) w (pk K) E) w fun t42 w=>
 GDo t39 false (fun E=>CallX prog 49 #[t41,t42] w (pk K) E) w fun t43 w=>
 GDo t39 false (fun E=>DoX prog (mFld 48 t43 0) w (pk K) E) w fun t44 w=>
 GDo t39 false (fun E=>DoX prog (mEq .neq 3 (.tmp 44) (.const (.int .i64 7)) t44 (.int .i64 7)) w (pk K) E) w fun t45 w=>
 DoX prog (mPick t39 (.bool true) t45) w (pk K) fun t46 w=>
 IfX t46 (K (.returned (.int .i64 22)) w) (K (.returned (.int .i64 0)) w))
def S_docs_trail (t0:Value)(w:World)(K:Ending→World→Prop):Prop:=
 DoX prog (mBox 50 t0) w (pk K) fun t1 w=>
 DoX prog (mFA 50 t1 1) w (pk K) fun t8 w=>
 DoX prog (mLoad 48 t8) w (pk K) fun t9 w=>
 CallX prog 78 #[t9] w (pk K) fun t10 w=>
 DoX prog (mEq .neq 30 (.tmp 11) (.const (.int .i64 0)) t10 (.int .i64 0)) w (pk K) fun t12 w=>
 IfX t12 (K (.returned t10) w) (DoX prog (mFA 50 t1 1) w (pk K) fun t14 w=>
 DoX prog (mFA 48 t14 0) w (pk K) fun t15 w=>
 DoX prog (mLoad 3 t15) w (pk K) fun t16 w=>
 DoX prog (mEq .neq 3 (.tmp 16) (.const (.int .i64 7)) t16 (.int .i64 7)) w (pk K) fun t17 w=>
 IfX t17 (K (.returned (.int .i64 10)) w) (DoX prog (mFA 50 t1 1) w (pk K) fun t18 w=>
 DoX prog (mFA 48 t18 4) w (pk K) fun t19 w=>
 DoX prog (mLoad 23 t19) w (pk K) fun t20 w=>
 DoX prog (mB .len #[23] 3 #[false] #[t20]) w (pk K) fun t21 w=>
 LoopX [(.int .i64 0)] w (fun vs1 w N1=>∀_:Sg,S_docs_trail_0 t1 t20 t21 (vs1.getD 0 undef) w N1 K)))
theorem S_docs_trail_eq (t0:Value)(w:World)(K:Ending→World→Prop):wpX prog 47 [] [(7,[22])] none (bodyOf Tryz.f66) (topQ prog [.tmp 2] K) (startX [t0]) [] w=S_docs_trail t0 w K:=by kernel_rfl
theorem S_docs_trail_ok {t0:Value}{w:World}{K:Ending→World→Prop}(h:S_docs_trail t0 w K):Calls prog 66 #[t0] w K:=
 calls_of_wpX Tryz.func66 rfl rfl rfl rfl (Eq.mpr (S_docs_trail_eq t0 w K) h)
def S_docs_known (w:World)(K:Ending→World→Prop):Prop:=
 DoX prog (mBuildS 23 3 #[(0,(.string ⟨#[73,68]⟩)),(1,(.string ⟨#[73,110,102,111]⟩)),(2,(.string ⟨#[82,111,111,116]⟩))]) w (pk K) fun t1 w=>
 K (.returned t1) w
theorem S_docs_known_eq (w:World)(K:Ending→World→Prop):wpX prog 2 [] [] none (bodyOf Tryz.f98) (topQ prog [.tmp 0] K) (startX []) [] w=S_docs_known w K:=by kernel_rfl
theorem S_docs_known_ok {w:World}{K:Ending→World→Prop}(h:S_docs_known w K):Calls prog 98 #[] w K:=
 calls_of_wpX Tryz.func98 rfl rfl rfl rfl (Eq.mpr (S_docs_known_eq w K) h)
def S_docs_Check (t0:Value)(w:World)(K:Ending→World→Prop):Prop:=
 DoX prog (mBox 50 t0) w (pk K) fun t1 w=>
 DoX prog (mFA 50 t1 0) w (pk K) fun t4 w=>
 DoX prog (mLoad 45 t4) w (pk K) fun t5 w=>
 CallX prog 65 #[t5] w (pk K) fun t6 w=>
 DoX prog (mEq .neq 30 (.tmp 7) (.const (.int .i64 0)) t6 (.int .i64 0)) w (pk K) fun t8 w=>
 IfX t8 (K (.returned t6) w) (DoX prog (mLoad 50 t1) w (pk K) fun t10 w=>
 CallX prog 66 #[t10] w (pk K) fun t11 w=>
 K (.returned t11) w)
theorem S_docs_Check_eq (t0:Value)(w:World)(K:Ending→World→Prop):wpX prog 12 [] [] none (bodyOf Tryz.f37) (topQ prog [.tmp 2] K) (startX [t0]) [] w=S_docs_Check t0 w K:=by kernel_rfl
theorem S_docs_Check_ok {t0:Value}{w:World}{K:Ending→World→Prop}(h:S_docs_Check t0 w K):Calls prog 37 #[t0] w K:=
 calls_of_wpX Tryz.func37 rfl rfl rfl rfl (Eq.mpr (S_docs_Check_eq t0 w K) h)
def S_docs_copied (t0:Value)(w:World)(K:Ending→World→Prop):Prop:=
 DoX prog (mBox 89 t0) w (pk K) fun t1 w=>
 DoX prog (mAlloc 89) w (pk K) fun t2 w=>
 DoX prog (mFA 89 t1 2) w (pk K) fun t3 w=>
 DoX prog (mLoad 48 t3) w (pk K) fun t4 w=>
 CallX prog 82 #[t4] w (pk K) fun t5 w=>
 DoX prog (mFA 89 t1 2) w (pk K) fun t6 w=>
 DoX prog (mStore 48 t6 t5) w (pk K) fun _ w=>
 DoX prog (mLoad 89 t1) w (pk K) fun t7 w=>
 DoX prog (mStore 89 t2 t7) w (pk K) fun _ w=>
 RetX prog [.cell t2 89] w K
theorem S_docs_copied_eq (t0:Value)(w:World)(K:Ending→World→Prop):wpX prog 8 [] [] none (bodyOf Tryz.f162) (topQ prog [.cell 2 89] K) (startX [t0]) [] w=S_docs_copied t0 w K:=by kernel_rfl
theorem S_docs_copied_ok {t0:Value}{w:World}{K:Ending→World→Prop}(h:S_docs_copied t0 w K):Calls prog 162 #[t0] w K:=
 calls_of_wpX Tryz.func162 rfl rfl rfl rfl (Eq.mpr (S_docs_copied_eq t0 w K) h)
def S_docs_fresh_0 (t2 t3 t11 t12 t13:Value)(w:World)(N1:List Value→World→Prop)(K:Ending→World→Prop):Prop:=
 DoX prog (mBin .lss 3 t13 t12) w (pk K) fun t14 w=>
 IfX t14 (DoX prog (mIA 45 t11 t13) w (pk K) fun t15 w=>
 DoX prog (mLoad 89 t15) w (pk K) fun t16 w=>
 DoX prog (mAlloc 89) w (pk K) fun t5 w=>
 DoX prog (mStore 89 t5 t16) w (pk K) fun _ w=>
 HeldX w (fun S2 w=>
 HDo prog (fun _=>True) (mFA 50 t3 0) fun t17=>
 HDo prog S2 (mLoad 45 t17) fun t18=>
 HDo prog S2 (mLoad 89 t5) fun t19=>
 CallX prog 162 #[t19] w (pm1 (pm1 (pm1 (pm1 (pk K))))) fun t20 w=>
 S2 w∧(DoX prog (mBuildS 45 1 #[(0,t20)]) w (pm1 (pm1 (pm1 (pm1 (pk K))))) fun t21 w=>
 S2 w∧(DoX prog (mB .append #[45,45] 45 #[false,false] #[t18,t21]) w (pm1 (pm1 (pm1 (pm1 (pk K))))) fun t22 w=>
 S2 w∧(HDo prog (fun _=>True) (mFA 50 t3 0) fun t23=>
 DoX prog (mStore 45 t23 t22) w (pm1 (pm1 (pm1 (pm1 (pk K))))) fun _ w=>
 (DoX prog (mBin .add 3 t13 (.int .i64 1)) w (pk K) fun t24 w=>
 N1 [t24] w)))))) (DoX prog (mLoad 50 t3) w (pk K) fun t25 w=>
 DoX prog (mStore 50 t2 t25) w (pk K) fun _ w=>
 RetX prog [.cell t2 50] w K)
def S_docs_fresh (t0:Value)(w:World)(K:Ending→World→Prop):Prop:=
 DoX prog (mBox 50 t0) w (pk K) fun t1 w=>
 DoX prog (mAlloc 50) w (pk K) fun t2 w=>
 DoX prog (mFA 50 t1 1) w (pk K) fun t6 w=>
 DoX prog (mLoad 48 t6) w (pk K) fun t7 w=>
 CallX prog 82 #[t7] w (pk K) fun t8 w=>
 DoX prog (mBuild 50 #[(1,t8)]) w (pk K) fun t9 w=>
 DoX prog (mAlloc 50) w (pk K) fun t3 w=>
 DoX prog (mStore 50 t3 t9) w (pk K) fun _ w=>
 DoX prog (mFA 50 t1 0) w (pk K) fun t10 w=>
 DoX prog (mLoad 45 t10) w (pk K) fun t11 w=>
 DoX prog (mB .len #[45] 3 #[false] #[t11]) w (pk K) fun t12 w=>
 LoopX [(.int .i64 0)] w (fun vs1 w N1=>∀_:Sg,S_docs_fresh_0 t2 t3 t11 t12 (vs1.getD 0 undef) w N1 K)
theorem S_docs_fresh_eq (t0:Value)(w:World)(K:Ending→World→Prop):wpX prog 26 [] [(3,[13])] none (bodyOf Tryz.f135) (topQ prog [.cell 2 50] K) (startX [t0]) [] w=S_docs_fresh t0 w K:=by kernel_rfl
theorem S_docs_fresh_ok {t0:Value}{w:World}{K:Ending→World→Prop}(h:S_docs_fresh t0 w K):Calls prog 135 #[t0] w K:=
 calls_of_wpX Tryz.func135 rfl rfl rfl rfl (Eq.mpr (S_docs_fresh_eq t0 w K) h)
def S_docs_Follow (t0 t1:Value)(w:World)(K:Ending→World→Prop):Prop:=
 DoX prog (mBox 50 t0) w (pk K) fun t2 w=>
 DoX prog (mBox 48 t1) w (pk K) fun t3 w=>
 DoX prog (mAlloc 48) w (pk K) fun t4 w=>
 DoX prog (mFA 48 t3 0) w (pk K) fun t6 w=>
 DoX prog (mLoad 3 t6) w (pk K) fun t7 w=>
 DoX prog (mEq .neq 3 (.tmp 7) (.const (.int .i64 8)) t7 (.int .i64 8)) w (pk K) fun t8 w=>
 IfX t8 (DoX prog (mLoad 48 t3) w (pk K) fun t9 w=>
 CallX prog 82 #[t9] w (pk K) fun t10 w=>
 DoX prog (mStore 48 t4 t10) w (pk K) fun _ w=>
 RetX prog [.cell t4 48] w K) (DoX prog (mFA 50 t2 0) w (pk K) fun t11 w=>
 DoX prog (mLoad 45 t11) w (pk K) fun t12 w=>
 DoX prog (mFunc (.func 84) #[] #[t3]) w (pk K) fun t13 w=>
 CallX prog 83 #[t12,t13] w (pk K) fun t14 w=>
 QuietX w (fun C1=>
 QDo prog C1 (mBin .lss 3 t14 (.int .i64 0)) fun t16=>
 GQ t16 false (fun E=>QDo prog C1 (mFA 50 t2 0) E) fun t18=>
 GQ t16 false (fun E=>QDo prog C1 (mLoad 45 t18) E) fun t19=>
 GQ t16 false (fun E=>E t14) fun t20=>
 GQ t16 false (fun E=>QDo prog C1 (mIA 45 t19 t20) E) fun t21=>
 GQ t16 false (fun E=>QDo prog C1 (mFA 89 t21 1) E) fun t22=>
 GQ t16 false (fun E=>QDo prog C1 (mLoad 3 t22) E) fun t23=>
 GQ t16 false (fun E=>QDo prog C1 (mFA 48 t3 2) E) fun t24=>
 GQ t16 false (fun E=>QDo prog C1 (mLoad 3 t24) E) fun t25=>
 GQ t16 false (fun E=>QDo prog C1 (mEq .neq 3 (.tmp 23) (.tmp 25) t23 t25) E) fun t26=>
 QDo prog C1 (mPick t16 (.bool true) t26) fun t27=>
 ∀w,C1 w →
 IfX t27 (DoX prog (mBuild 48 #[]) w (pk K) fun t28 w=>
 DoX prog (mStore 48 t4 t28) w (pk K) fun _ w=>
 RetX prog [.cell t4 48] w K) (DoX prog (mFA 50 t2 0) w (pk K) fun t29 w=>
 DoX prog (mLoad 45 t29) w (pk K) fun t30 w=>
 DoX prog (mIA 45 t30 t14) w (pk K) fun t32 w=>
 DoX prog (mFA 89 t32 2) w (pk K) fun t33 w=>
 DoX prog (mLoad 48 t33) w (pk K) fun t34 w=>
 CallX prog 82 #[t34] w (pk K) fun t35 w=>
 DoX prog (mStore 48 t4 t35) w (pk K) fun _ w=>
 RetX prog [.cell t4 48] w K)))
theorem S_docs_Follow_eq (t0 t1:Value)(w:World)(K:Ending→World→Prop):wpX prog 36 [] [] none (bodyOf Tryz.f49) (topQ prog [.cell 4 48] K) (startX [t0,t1]) [] w=S_docs_Follow t0 t1 w K:=by kernel_rfl
theorem S_docs_Follow_ok {t0 t1:Value}{w:World}{K:Ending→World→Prop}(h:S_docs_Follow t0 t1 w K):Calls prog 49 #[t0,t1] w K:=
 calls_of_wpX Tryz.func49 rfl rfl rfl rfl (Eq.mpr (S_docs_Follow_eq t0 t1 w K) h)
def S_docs_Follow_1 (t0 t1:Value)(w:World)(K:Ending→World→Prop):Prop:=
 DoX prog (mBox 89 t0) w (pk K) fun t2 w=>
 DoX prog (mFA 89 t2 0) w (pk K) fun t4 w=>
 DoX prog (mLoad 3 t4) w (pk K) fun t5 w=>
 DoX prog (mFA 48 t1 1) w (pk K) fun t6 w=>
 DoX prog (mLoad 2 t6) w (pk K) fun t7 w=>
 DoX prog (mEq .eql 2 (.tmp 5) (.tmp 7) t5 t7) w (pk K) fun t8 w=>
 K (.returned t8) w
theorem S_docs_Follow_1_eq (t0 t1:Value)(w:World)(K:Ending→World→Prop):wpX prog 9 [] [] none (bodyOf Tryz.f84) (topQ prog [.tmp 3] K) (startX [t0,t1]) [] w=S_docs_Follow_1 t0 t1 w K:=by kernel_rfl
theorem S_docs_Follow_1_ok {t0 t1:Value}{w:World}{K:Ending→World→Prop}(h:S_docs_Follow_1 t0 t1 w K):Calls prog 84 #[t0,t1] w K:=
 calls_of_wpX Tryz.func84 rfl rfl rfl rfl (Eq.mpr (S_docs_Follow_1_eq t0 t1 w K) h)
def S_docs_Path_0 (t3 t4 t6 t14 t15 t16:Value)(w:World)(N1:List Value→World→Prop)(K:Ending→World→Prop):Prop:=
 DoX prog (mBin .lss 3 t16 t15) w (pk K) fun t17 w=>
 IfX t17 (DoX prog (mIA 23 t14 t16) w (pk K) fun t18 w=>
 DoX prog (mLoad 9 t18) w (pk K) fun t19 w=>
 DoX prog (mLoad 48 t4) w (pk K) fun t21 w=>
 CallX prog 99 #[t21,t19] w (pk K) fun t23 w=>
 DoX prog (mExt t23 0) w (pk K) fun t24 w=>
 DoX prog (mExt t23 1) w (pk K) fun t25 w=>
 DoX prog (mAlloc 48) w (pk K) fun t9 w=>
 DoX prog (mStore 48 t9 t24) w (pk K) fun _ w=>
 DoX prog (mUn .not t25) w (pk K) fun t27 w=>
 IfX t27 (DoX prog (mBuild 48 #[]) w (pk K) fun t28 w=>
 DoX prog (mStore 48 t6 t28) w (pk K) fun _ w=>
 RetX prog [.cell t6 48] w K) (DoX prog (mLoad 50 t3) w (pk K) fun t29 w=>
 DoX prog (mLoad 48 t9) w (pk K) fun t30 w=>
 CallX prog 49 #[t29,t30] w (pk K) fun t31 w=>
 DoX prog (mStore 48 t4 t31) w (pk K) fun _ w=>
 DoX prog (mBin .add 3 t16 (.int .i64 1)) w (pk K) fun t32 w=>
 N1 [t32] w)) (DoX prog (mLoad 48 t4) w (pk K) fun t33 w=>
 DoX prog (mStore 48 t6 t33) w (pk K) fun _ w=>
 RetX prog [.cell t6 48] w K)
def S_docs_Path (t0 t1 t2:Value)(w:World)(K:Ending→World→Prop):Prop:=
 DoX prog (mBox 50 t0) w (pk K) fun t3 w=>
 DoX prog (mBox 48 t1) w (pk K) fun t4 w=>
 DoX prog (mAlloc 48) w (pk K) fun t6 w=>
 DoX prog (mLoad 50 t3) w (pk K) fun t11 w=>
 DoX prog (mLoad 48 t4) w (pk K) fun t12 w=>
 CallX prog 49 #[t11,t12] w (pk K) fun t13 w=>
 DoX prog (mStore 48 t4 t13) w (pk K) fun _ w=>
 DoX prog (mB .len #[23] 3 #[false] #[t2]) w (pk K) fun t15 w=>
 LoopX [(.int .i64 0)] w (fun vs1 w N1=>∀_:Sg,S_docs_Path_0 t3 t4 t6 t2 t15 (vs1.getD 0 undef) w N1 K)
theorem S_docs_Path_eq (t0 t1 t2:Value)(w:World)(K:Ending→World→Prop):wpX prog 34 [] [(3,[16])] none (bodyOf Tryz.f116) (topQ prog [.cell 6 48] K) (startX [t0,t1,t2]) [] w=S_docs_Path t0 t1 t2 w K:=by kernel_rfl
theorem S_docs_Path_ok {t0 t1 t2:Value}{w:World}{K:Ending→World→Prop}(h:S_docs_Path t0 t1 t2 w K):Calls prog 116 #[t0,t1,t2] w K:=
 calls_of_wpX Tryz.func116 rfl rfl rfl rfl (Eq.mpr (S_docs_Path_eq t0 t1 t2 w K) h)
def S_docs_lay (t0 t1:Value)(w:World)(K:Ending→World→Prop):Prop:=
 DoX prog (mBox 89 t1) w (pk K) fun t3 w=>
 DoX prog (mFA 89 t3 0) w (pk K) fun t9 w=>
 DoX prog (mLoad 3 t9) w (pk K) fun t10 w=>
 CallX prog 163 #[t0,t10,(.func (.func 164) #[] #[])] w (pk K) fun t11 w=>
 DoX prog (mExt t11 0) w (pk K) fun t12 w=>
 DoX prog (mExt t11 1) w (pk K) fun t13 w=>
 IfX t13 (DoX prog (mLoad 89 t3) w (pk K) fun t17 w=>
 CallX prog 162 #[t17] w (pk K) fun t18 w=>
 DoX prog (mIA 45 t0 t12) w (pk K) fun t19 w=>
 DoX prog (mStore 89 t19 t18) w (pk K) fun _ w=>
 K (.returned t0) w) (DoX prog (mLoad 89 t3) w (pk K) fun t23 w=>
 CallX prog 162 #[t23] w (pk K) fun t24 w=>
 DoX prog (mBuildS 45 1 #[(0,t24)]) w (pk K) fun t25 w=>
 CallX prog 165 #[t0,t12,t25] w (pk K) fun t26 w=>
 K (.returned t26) w)
theorem S_docs_lay_eq (t0 t1:Value)(w:World)(K:Ending→World→Prop):wpX prog 27 [] [] none (bodyOf Tryz.f136) (topQ prog [.tmp 4] K) (startX [t0,t1]) [] w=S_docs_lay t0 t1 w K:=by kernel_rfl
theorem S_docs_lay_ok {t0 t1:Value}{w:World}{K:Ending→World→Prop}(h:S_docs_lay t0 t1 w K):Calls prog 136 #[t0,t1] w K:=
 calls_of_wpX Tryz.func136 rfl rfl rfl rfl (Eq.mpr (S_docs_lay_eq t0 t1 w K) h)
def S_docs_byNum (t0 t1:Value)(w:World)(K:Ending→World→Prop):Prop:=
 DoX prog (mBox 89 t0) w (pk K) fun t2 w=>
 DoX prog (mFA 89 t2 0) w (pk K) fun t5 w=>
 DoX prog (mLoad 3 t5) w (pk K) fun t6 w=>
 CallX prog 186 #[t6,t1] w (pk K) fun t8 w=>
 K (.returned t8) w
theorem S_docs_byNum_eq (t0 t1:Value)(w:World)(K:Ending→World→Prop):wpX prog 9 [] [] none (bodyOf Tryz.f164) (topQ prog [.tmp 4] K) (startX [t0,t1]) [] w=S_docs_byNum t0 t1 w K:=by kernel_rfl
theorem S_docs_byNum_ok {t0 t1:Value}{w:World}{K:Ending→World→Prop}(h:S_docs_byNum t0 t1 w K):Calls prog 164 #[t0,t1] w K:=
 calls_of_wpX Tryz.func164 rfl rfl rfl rfl (Eq.mpr (S_docs_byNum_eq t0 t1 w K) h)
def S_docs_told (t0:Value)(w:World)(K:Ending→World→Prop):Prop:=
 DoX prog (mBox 50 t0) w (pk K) fun t1 w=>
 DoX prog (mAlloc 50) w (pk K) fun t2 w=>
 DoX prog (mLoad 50 t1) w (pk K) fun t5 w=>
 CallX prog 37 #[t5] w (pk K) fun t6 w=>
 DoX prog (mEq .neq 30 (.tmp 7) (.const (.int .i64 0)) t6 (.int .i64 0)) w (pk K) fun t8 w=>
 IfX t8 (DoX prog (mBuild 50 #[]) w (pk K) fun t9 w=>
 DoX prog (mStore 50 t2 t9) w (pk K) fun _ w=>
 RetX prog [.cell t2 50,.val t6] w K) (DoX prog (mLoad 50 t1) w (pk K) fun t11 w=>
 DoX prog (mStore 50 t2 t11) w (pk K) fun _ w=>
 RetX prog [.cell t2 50,.val (.int .i64 0)] w K)
theorem S_docs_told_eq (t0:Value)(w:World)(K:Ending→World→Prop):wpX prog 12 [] [] none (bodyOf Tryz.f137) (topQ prog [.cell 2 50,.tmp 3] K) (startX [t0]) [] w=S_docs_told t0 w K:=by kernel_rfl
theorem S_docs_told_ok {t0:Value}{w:World}{K:Ending→World→Prop}(h:S_docs_told t0 w K):Calls prog 137 #[t0] w K:=
 calls_of_wpX Tryz.func137 rfl rfl rfl rfl (Eq.mpr (S_docs_told_eq t0 w K) h)
def S_docs_Put (t0 t1:Value)(w:World)(K:Ending→World→Prop):Prop:=
 DoX prog (mBox 50 t0) w (pk K) fun t2 w=>
 DoX prog (mBox 89 t1) w (pk K) fun t3 w=>
 DoX prog (mAlloc 50) w (pk K) fun t4 w=>
 DoX prog (mLoad 50 t2) w (pk K) fun t8 w=>
 CallX prog 37 #[t8] w (pk K) fun t9 w=>
 DoX prog (mEq .neq 30 (.tmp 10) (.const (.int .i64 0)) t9 (.int .i64 0)) w (pk K) fun t11 w=>
 IfX t11 (DoX prog (mBuild 50 #[]) w (pk K) fun t12 w=>
 DoX prog (mStore 50 t4 t12) w (pk K) fun _ w=>
 RetX prog [.cell t4 50,.val t9] w K) (DoX prog (mLoad 89 t3) w (pk K) fun t14 w=>
 CallX prog 134 #[t14] w (pk K) fun t15 w=>
 DoX prog (mEq .neq 30 (.tmp 16) (.const (.int .i64 0)) t15 (.int .i64 0)) w (pk K) fun t17 w=>
 IfX t17 (DoX prog (mBuild 50 #[]) w (pk K) fun t18 w=>
 DoX prog (mStore 50 t4 t18) w (pk K) fun _ w=>
 RetX prog [.cell t4 50,.val t15] w K) (DoX prog (mLoad 50 t2) w (pk K) fun t20 w=>
 CallX prog 135 #[t20] w (pk K) fun t21 w=>
 DoX prog (mStore 50 t2 t21) w (pk K) fun _ w=>
 DoX prog (mFA 50 t2 0) w (pk K) fun t22 w=>
 DoX prog (mLoad 45 t22) w (pk K) fun t23 w=>
 DoX prog (mLoad 89 t3) w (pk K) fun t24 w=>
 CallX prog 136 #[t23,t24] w (pk K) fun t25 w=>
 DoX prog (mFA 50 t2 0) w (pk K) fun t26 w=>
 DoX prog (mStore 45 t26 t25) w (pk K) fun _ w=>
 DoX prog (mLoad 50 t2) w (pk K) fun t27 w=>
 CallX prog 137 #[t27] w (pk K) fun t28 w=>
 DoX prog (mExt t28 0) w (pk K) fun t29 w=>
 DoX prog (mExt t28 1) w (pk K) fun t30 w=>
 DoX prog (mStore 50 t4 t29) w (pk K) fun _ w=>
 RetX prog [.cell t4 50,.val t30] w K))
theorem S_docs_Put_eq (t0 t1:Value)(w:World)(K:Ending→World→Prop):wpX prog 31 [] [] none (bodyOf Tryz.f106) (topQ prog [.cell 4 50,.tmp 5] K) (startX [t0,t1]) [] w=S_docs_Put t0 t1 w K:=by kernel_rfl
theorem S_docs_Put_ok {t0 t1:Value}{w:World}{K:Ending→World→Prop}(h:S_docs_Put t0 t1 w K):Calls prog 106 #[t0,t1] w K:=
 calls_of_wpX Tryz.func106 rfl rfl rfl rfl (Eq.mpr (S_docs_Put_eq t0 t1 w K) h)
end
end Go.Proofs.YtmkodaephgnehaaGreatDoor

namespace Go.Proofs.YtmkodaephgnehaaGreatDoor
section
open Eng Go.RowKit
theorem RetM.told {f:Nat}{args:Array Value}{M:Mem}{w:World}{x:Value}(h:RetM prog f args M w (fun v _=>v=x)):Ret prog f args w (fun v w'=>v=x∧Below w.heap.size w w'):=
 Ret.mono h fun v w' ⟨N,g,r⟩=>⟨r,g.below⟩
theorem getD_ov {M:Mem}{v:Value}{x:Option Ob}(h:OV M.A M.w v (x.getD Vl.ob0)):∃vk vc,v=obV (x.getD Vl.ob0) vk vc∧OV M.A M.w (obV (x.getD Vl.ob0) vk vc) (x.getD Vl.ob0):=by
 obtain⟨vk,vc,cs,rfl,ha⟩:=h.open;exact⟨vk,vc,rfl,h⟩
theorem dkind_ret (o:Ob)(v:Value)(M:Mem)(w:World)(hw:o.wt≤10000000000)(hM:M.has w)(hv:OV M.A M.w v o) :
  RetM prog 159 #[v] M w (fun r _=>r=.string ⟨(Dk.kind o).toArray⟩):=by
 obtain⟨vk,vc,cs,rfl,ha⟩:=hv.open;refine retM_of hM fun K hK=>S_docs_kind_ok ?_;unfold S_docs_kind;refine o_obb o ha.keys.one ha.kids.one (OwnS.memS hM) fun b w1 ho=>?_;rw[ob_v ho 0 rfl];refine c_mem ho 1 rfl (vget_ret o _ Dk.typeK M w1 (by omega) (ho.hasM 1 rfl) hv) ?_;rintro _ N w2 hle ⟨t,rfl,ht⟩ ho;obtain⟨tk,tc,rfl,ht⟩:=getD_ov ht;simp only[getV,ex];refine o_oba ho fun b3 w3 ho=>?_;refine ob_put 0 ht.oneK ht.oneC ho rfl fun w4 ho=>?_;rw[fa_o0,ob_k ho 0 rfl];simp only[rs];by_cases h5:((Vl.get o Dk.typeK).getD Vl.ob0).k=5
 ·simp only[h5,ne_eq,not_true,decide_false,i_f];rw[fa_o3,ob_s ho 0 rfl];refine hK _ _ N _ 2 ho rfl hle ?_;unfold Dk.kind;rw[if_neg (by simp[h5])]
 ·simp only[h5,ne_eq,not_false_eq_true,decide_true,i_t];refine hK _ _ N _ 2 ho rfl hle ?_;unfold Dk.kind;rw[if_pos h5]
theorem holds_ret (o:Ob)(v:Value)(M:Mem)(w:World)(hw:o.wt≤10000000000)(hM:M.has w)(hv:OV M.A M.w v o) :
  RetM prog 130 #[v] M w (fun r _=>r=.bool (Dk.holds o)):=by
 obtain⟨vk,vc,cs,rfl,ha⟩:=hv.open;refine retM_of hM fun K hK=>S_docs_holds_ok ?_;unfold S_docs_holds;refine o_obb o ha.keys.one ha.kids.one (OwnS.memS hM) fun b w1 ho=>?_;rw[fa_o0,ob_k ho 0 rfl];simp only[rs];by_cases h9:o.k=9
 case neg=>
  simp only[h9,decide_false,rs,g_un];exact hK _ _ M _ 1 ho rfl M.le_refl (by simp[Dk.holds,h9])
 simp only[h9,decide_true,rs];rw[ob_v ho 0 rfl];refine c_below ho (R:=fun r=>r=.string ⟨(Dk.kind o).toArray⟩) (RetM.told (dkind_ret o _ M w1 hw (ho.hasM 1 rfl) hv)) ?_;rintro _ w2 rfl ho;have d1:Dk.objStm=[79,98,106,83,116,109]:=rfl;have d2:Dk.xref=[88,82,101,102]:=rfl;simp only[rs];by_cases h1:Dk.kind o=[79,98,106,83,116,109]
 ·simp only[h1,decide_true,rs,g_un];exact hK _ _ M _ 1 ho rfl M.le_refl (by simp[Dk.holds,h9,h1,d1])
 simp only[h1,decide_false,rs];rw[ob_v ho 0 rfl];refine c_below ho (R:=fun r=>r=.string ⟨(Dk.kind o).toArray⟩) (RetM.told (dkind_ret o _ M w2 hw (ho.hasM 1 rfl) hv)) ?_;rintro _ w3 rfl ho;simp only[rs];exact hK _ _ M _ 1 ho rfl M.le_refl (by simp[Dk.holds,h9,h1,d1,d2])
theorem numbers_ret (i:It){vk vc:Value}(hk:vk.oneCell'=true)(hc:vc.oneCell'=true)(w:World):Ret prog 95 #[itV i vk vc] w (fun r w'=>r=.bool (Dk.numbers i)∧Below w.heap.size w w'):=by
 refine ret_of fun K hK=>S_docs_numbers_ok ?_;unfold S_docs_numbers;refine o_itb i hk hc (Own.start w) fun b w1 ho=>?_;rw[fa_i0,it_num ho 0 rfl];simp only[rs];by_cases h1:1≤i.num
 case neg=>simp only[h1,decide_false,rs,g_un];exact hK _ _ ⟨by simp[Dk.numbers,h1],ho.done⟩
 simp only[h1,decide_true,rs,fa_i0,it_num ho 0 rfl];by_cases h2:i.num≤8191
 case neg=>simp only[h2,decide_false,rs,g_un];exact hK _ _ ⟨by simp[Dk.numbers,h2],ho.done⟩
 simp only[h2,decide_true,rs,fa_i1,it_gen ho 0 rfl];by_cases h3:0≤i.gen
 case neg=>simp only[h3,decide_false,rs,g_un];exact hK _ _ ⟨by simp[Dk.numbers,h3],ho.done⟩
 simp only[h3,decide_true,rs,fa_i1,it_gen ho 0 rfl];exact hK _ _ ⟨by simp[Dk.numbers,h1,h2,h3],ho.done⟩
theorem content_ret (i:It){vk vc:Value}(M:Mem)(w:World)(hw:i.obj.wt≤10000000000)(hM:M.has w)(hv:OV M.A M.w (obV i.obj vk vc) i.obj) :
  RetM prog 96 #[itV i vk vc] M w (fun r _=>r=.int .i64 (Dk.content i)):=by
 refine retM_of hM fun K hK=>S_docs_content_ok ?_;unfold S_docs_content;refine o_itb i hv.oneK hv.oneC (OwnS.memS hM) fun b w1 ho=>?_;rw[fa_i2,it_obj ho 0 rfl];refine c_below ho (R:=fun v=>v=.int .i64 (Vl.check 1 i.obj)) (vCheck_ret i.obj _ w1 (OV.inw (ho.hasM 1 rfl) hv) (by omega)) ?_;rintro _ w2 rfl ho;simp only[n_err];by_cases hc:Vl.check 1 i.obj=0
 case neg=>
  simp only[hc,ne_eq,not_false_eq_true,decide_true,i_t];exact hK _ _ M _ 1 ho rfl M.le_refl (by simp[Dk.content,hc])
 simp only[hc,ne_eq,not_true,decide_false,i_f];rw[fa_i2,fa_o0,it_k ho 0 rfl];simp only[rs];by_cases h8:i.obj.k=8
 ·simp only[h8,decide_true,rs,g_un];exact hK _ _ M _ 1 ho rfl M.le_refl (by simp[Dk.content,hc,h8])
 simp only[h8,decide_false,rs,fa_i2,it_obj ho 0 rfl];refine c_below ho (R:=fun r=>r=.bool (Dk.holds i.obj)) (RetM.told (holds_ret i.obj _ M w2 hw (ho.hasM 1 rfl) hv)) ?_;rintro _ w3 rfl ho;cases hh:Dk.holds i.obj with
|true=>simp only[rs];exact hK _ _ M _ 1 ho rfl M.le_refl (by simp[Dk.content,hc,hh])
|false=>simp only[rs];exact hK _ _ M _ 1 ho rfl M.le_refl (by simp[Dk.content,hc,h8,hh])
theorem alone_ret (i:It){vk vc:Value}(M:Mem)(w:World)(hw:i.obj.wt≤10000000000)(hM:M.has w)(hv:OV M.A M.w (obV i.obj vk vc) i.obj) :
  RetM prog 134 #[itV i vk vc] M w (fun r _=>r=.int .i64 (Dk.alone i)):=by
 refine retM_of hM fun K hK=>S_docs_alone_ok ?_;unfold S_docs_alone;refine o_itb i hv.oneK hv.oneC (OwnS.memS hM) fun b w1 ho=>?_;rw[it_v ho 0 rfl];refine c_below ho (R:=fun v=>v=.bool (Dk.numbers i)) (numbers_ret i hv.oneK hv.oneC w1) ?_;rintro _ w2 rfl ho;cases hn:Dk.numbers i with
|false=>
  simp only[rs,Bool.not_false];exact hK _ _ M _ 1 ho rfl M.le_refl (by simp[Dk.alone,hn])
|true=>
  simp only[rs,Bool.not_true];rw[it_v ho 0 rfl];refine c_below ho (R:=fun v=>v=.int .i64 (Dk.content i)) (RetM.told (content_ret i M w2 hw (ho.hasM 1 rfl) hv)) ?_;rintro _ w3 rfl ho;exact hK _ _ M _ 1 ho rfl M.le_refl (by simp[Dk.alone,hn])
end
section
open Eng Go.RowKit
def Dk.prev (l:List It)(i:Nat):Option Int:=if i=0 then none else (l[i - 1]?).map (·.num)
theorem q_sub {P:Program}{C:World→Prop}{K:Value→Prop}{T:TypeId}{k:IntKind}{a b:Int}(h:K (.int k (k.wrap (a - b)))):QDo P C (mBin .sub T (.int k a) (.int k b)) K:=q_do _ (fun _=>r_sub) h
theorem Dk.items_step {l:List It}{i:Nat}(h:i < l.length):Dk.itemsG (Dk.prev l i) (l.drop i)=if Dk.numbers l[i]=false then 2 else if (Dk.prev l i).any (fun n=>decide (l[i].num≤n)) then 9 else if Dk.content l[i]≠0 then Dk.content l[i] else Dk.itemsG (Dk.prev l (i+1)) (l.drop (i+1)):=by
 rw[List.drop_eq_getElem_cons h,Dk.itemsG];have e:Dk.prev l (i+1)=some l[i].num:=by simp[Dk.prev,h]
 rw[e]
theorem Dk.prev_any {l:List It}{i:Nat}(h:i < l.length)(h0:0 < i)(n:Int):(Dk.prev l i).any (fun m=>decide (n≤m))=decide (n≤(l[i - 1]'(by omega)).num):=by
 have e:Dk.prev l i=some (l[i - 1]'(by omega)).num:=by
  unfold Dk.prev;rw[if_neg (by omega),List.getElem?_eq_getElem (by omega)];rfl
 rw[e];rfl
theorem ditems_ret (l:List It)(vi:Value)(cs:List Value)(M:Mem)(w:World)(hl:l.length≤10000000000)(hw:∀i∈l,i.obj.wt≤10000000000)(hM:M.has w)(hs:SlA M.A M.w vi 8 l.length cs)(hall:IVs M.A M.w cs l) :
  RetM prog 65 #[vi] M w (fun r _=>r=.int .i64 (Dk.itemsG none l)):=by
 refine retM_of hM fun K hK=>S_docs_items_ok ?_;unfold S_docs_items;have ho:=OwnS.memS hM;rw[sl_len Tryz.underlying45 (hs.now hM)];refine loop (fun vs W=>∃i:Nat,vs=[.int .i64 i]∧i≤l.length∧Dk.itemsG none l=Dk.itemsG (Dk.prev l i) (l.drop i)∧OwnS M.A w W [.mem M]) (fun vs _=>l.length - n0 vs) ⟨0,rfl,by omega,by simp[Dk.prev],ho⟩ ?_;clear ho;rintro vs w1 ⟨i,rfl,hi,he,ho⟩ _;simp only[S_docs_items_0,gd,rs];by_cases hlt:(i:Int) < (l.length:Int)
 ·have hi':i < l.length:=by omega
  simp only[hlt,decide_true,i_t];obtain⟨vk,vc,bi,oi,hv,hr⟩:=item_at hs hall hi';obtain⟨r1,r2⟩:=hr w1 (ho.hasM 0 rfl);refine do_eq r1 |>.mpr (do_eq (run_it r2) |>.mpr ?_);refine o_ita ho fun b w2 ho=>?_;refine it_put 0 hv.oneK hv.oneC ho rfl fun w3 ho=>?_;have ho:OwnS M.A w w3 [itE b l[i] vk vc,.mem M]:=ho;rw[Dk.items_step hi'] at he;have hwi:=hw l[i] (List.getElem_mem hi');rw[it_v ho 0 rfl];refine c_below ho (R:=fun v=>v=.bool (Dk.numbers l[i])) (numbers_ret l[i] hv.oneK hv.oneC w3) ?_;rintro _ w3 rfl ho;cases hn:Dk.numbers l[i] with
 |false=>
   simp only[rs,Bool.not_false];rw[hn] at he;exact hK _ _ M _ 1 ho rfl M.le_refl (by rw[he];rfl)
 |true=>
  simp only[rs,Bool.not_true];rw[hn] at he;simp only[Bool.true_eq_false,if_false] at he;have rest:(Dk.prev l i).any (fun n=>decide (l[i].num≤n))=false→∀W:World,OwnS M.A w W [itE b l[i] vk vc,.mem M] →
    DoX prog (mLoad 89 (.pointer (some ⟨b,0,none⟩))) W (pk K) (fun t31 x=>CallX prog 96 #[t31] x (pk K) fun t32 x=>
     DoX prog (mEq .neq 30 (.tmp 33) (.const (.int .i64 0)) t32 (.int .i64 0)) x (pk K) fun t34 x=>
     IfX t34 (K (.returned t32) x) (NextX (fun vs W=>∃i:Nat,vs=[.int .i64 i]∧i≤l.length∧Dk.itemsG none l=Dk.itemsG (Dk.prev l i) (l.drop i)∧OwnS M.A w W [.mem M]) (fun vs _=>l.length - n0 vs) [.int .i64 (i:Int)] w1 [.int .i64 (IntKind.wrap .i64 ((i:Int)+1))] x)):=by
   intro ha W ho;rw[ha] at he;simp only[Bool.false_eq_true,if_false] at he;rw[it_v ho 0 rfl];refine c_below ho (R:=fun v=>v=.int .i64 (Dk.content l[i])) (RetM.told (content_ret l[i] M W hwi (ho.hasM 1 rfl) hv)) ?_;rintro _ w5 rfl ho;simp only[n_err];by_cases hc:Dk.content l[i]=0
   ·simp only[hc,ne_eq,not_true,decide_false,i_f];rw[wrap64_id (by omega) (by omega)];exact nextX ⟨i+1,rfl,by omega,by rw[he,if_neg (by simp[hc])],ho.tail⟩ (by simp[n0,RowKit.intOf];omega)
   ·simp only[hc,ne_eq,not_false_eq_true,decide_true,i_t];exact hK _ _ M _ 1 ho rfl M.le_refl (by rw[he,if_pos hc])
  refine quiet (q_gtr ?_);by_cases h0:i=0
  ·have hp:¬(0:Int) < (i:Int):=by omega
   simp only[hp,decide_false,gq];refine q_pf ?_;intro w4 hW;simp only[i_f];exact rest (by simp[Dk.prev,h0]) w4 (ho.grow hW)
  ·have hp:(0:Int) < (i:Int):=by omega
   have hpv:=Dk.prev_any hi' (by omega) l[i].num;simp only[hp,decide_true,gq];refine q_do _ (fun _=>run_fa fo_i0) ?_;refine q_at (.int .i64 l[i].num) (fun W hW=>run_load_cell nInt5 ((ho.grow hW).cell 0 rfl 0 rfl)) ?_;refine q_sub ?_;rw[wrap64_id (by omega) (by omega),show (i:Int) - 1=((i - 1:Nat):Int) by omega];obtain⟨pk',pc,bp,op,hpv',hrp⟩:=item_at hs hall (show i - 1 < l.length by omega);have hMW:∀W,Below w3.heap.size w3 W→M.has W:=fun W hW=>Mem.has_below (ho.hasM 1 rfl) hW;refine q_at _ (fun W hW=>(hrp W (hMW W hW)).1) ?_;refine q_do _ (fun _=>run_fa fo_i0) ?_;refine q_at (.int .i64 l[i - 1].num) (fun W hW=>run_load_cell nInt5 ((hrp W (hMW W hW)).2 0 _ rfl)) ?_;refine q_leq ?_;refine q_pt ?_;intro w4 hW;have ho:=ho.grow hW;by_cases hle:l[i].num≤l[i - 1].num
   ·simp only[hle,decide_true,i_t];rw[hpv,decide_eq_true hle] at he;exact hK _ _ M _ 1 ho rfl M.le_refl (by rw[he];rfl)
   ·simp only[hle,decide_false,i_f];exact rest (by rw[hpv,decide_eq_false hle]) w4 ho
 ·simp only[hlt,decide_false,i_f];rw[List.drop_eq_nil_of_le (by omega)] at he;exact hK _ _ M _ 0 ho rfl M.le_refl (by rw[he];rfl)
end
section
open Eng
def S_slices_Insert_foliant_api_Item_foliant_api_Item (t0 t1 t2:Value)(w:World)(K:Ending→World→Prop):Prop:=
 DoX prog (mSlice 45 t0 (some t1) none none) w (pk K) fun t12 w=>
 DoX prog (mB .len #[45] 3 #[false] #[t2]) w (pk K) fun t14 w=>
 DoX prog (mEq .eql 3 (.tmp 15) (.const (.int .i64 0)) t14 (.int .i64 0)) w (pk K) fun t16 w=>
 IfX t16 (K (.returned t0) w) (DoX prog (mB .len #[45] 3 #[false] #[t0]) w (pk K) fun t19 w=>
 DoX prog (mEq .eql 3 (.tmp 20) (.tmp 21) t1 t19) w (pk K) fun t22 w=>
 IfX t22 (DoX prog (mB .append #[45,45] 45 #[false,false] #[t0,t2]) w (pk K) fun t25 w=>
 K (.returned t25) w) (DoX prog (mBin .add 3 t19 t14) w (pk K) fun t28 w=>
 DoX prog (mB .cap #[45] 3 #[false] #[t0]) w (pk K) fun t30 w=>
 DoX prog (mBin .gtr 3 t28 t30) w (pk K) fun t31 w=>
 IfX t31 (DoX prog (mSlice 45 t0 none (some t1) none) w (pk K) fun t34 w=>
 DoX prog (mBin .add 3 t19 t14) w (pk K) fun t37 w=>
 DoX prog (mBin .sub 3 t37 t1) w (pk K) fun t39 w=>
 DoX prog (mB .append #[45,3] 45 #[false,false] #[t34,t39]) w (pk K) fun t40 w=>
 DoX prog (mSlice 45 t40 (some t1) none none) w (pk K) fun t43 w=>
 DoX prog (mB .copy #[45,45] 3 #[false,false] #[t43,t2]) w (pk K) fun t45 w=>
 QuietX w (fun C1=>
 QDo prog C1 (mBin .add 3 t1 t14) fun t49=>
 QDo prog C1 (mSlice 45 t40 (some t49) none none) fun t50=>
 QDo prog C1 (mSlice 45 t0 (some t1) none none) fun t53=>
 ∀w,C1 w →
 DoX prog (mB .copy #[45,45] 3 #[false,false] #[t50,t53]) w (pk K) fun t54 w=>
 K (.returned t40) w)) (DoX prog (mBin .add 3 t19 t14) w (pk K) fun t59 w=>
 DoX prog (mSlice 45 t0 none (some t59) none) w (pk K) fun t60 w=>
 DoX prog (mBin .add 3 t1 t14) w (pk K) fun t65 w=>
 DoX prog (mSlice 45 t60 (some t65) none none) w (pk K) fun t66 w=>
 DoX prog (mCallV (.func (.func 187) #[] #[]) #[t2,t66]) w (pk K) fun t67 w=>
 DoX prog (mUn .not t67) w (pk K) fun t68 w=>
 IfX t68 (QuietX w (fun C2=>
 QDo prog C2 (mBin .add 3 t1 t14) fun t72=>
 QDo prog C2 (mSlice 45 t60 (some t72) none none) fun t73=>
 QDo prog C2 (mSlice 45 t60 (some t1) none none) fun t76=>
 ∀w,C2 w →
 DoX prog (mB .copy #[45,45] 3 #[false,false] #[t73,t76]) w (pk K) fun t77 w=>
 DoX prog (mSlice 45 t60 (some t1) none none) w (pk K) fun t80 w=>
 DoX prog (mB .copy #[45,45] 3 #[false,false] #[t80,t2]) w (pk K) fun t82 w=>
 K (.returned t60) w)) (DoX prog (mSlice 45 t60 (some t19) none none) w (pk K) fun t86 w=>
 DoX prog (mB .copy #[45,45] 3 #[false,false] #[t86,t2]) w (pk K) fun t88 w=>
 DoX prog (mSlice 45 t60 (some t1) none none) w (pk K) fun t91 w=>
 CallX prog 188 #[t91,t14] w (pk K) fun t93 w=>
 K (.returned t60) w))))
theorem S_slices_Insert_foliant_api_Item_foliant_api_Item_eq (t0 t1 t2:Value)(w:World)(K:Ending→World→Prop):wpX prog 95 [] [] none (bodyOf Tryz.f165) (topQ prog [.tmp 6] K) (startX [t0,t1,t2]) [] w=S_slices_Insert_foliant_api_Item_foliant_api_Item t0 t1 t2 w K:=by kernel_rfl
theorem S_slices_Insert_foliant_api_Item_foliant_api_Item_ok {t0 t1 t2:Value}{w:World}{K:Ending→World→Prop}(h:S_slices_Insert_foliant_api_Item_foliant_api_Item t0 t1 t2 w K):Calls prog 165 #[t0,t1,t2] w K:=
 calls_of_wpX Tryz.func165 rfl rfl rfl rfl (Eq.mpr (S_slices_Insert_foliant_api_Item_foliant_api_Item_eq t0 t1 t2 w K) h)
def S_slices_BinarySearchFunc_foliant_api_Item_foliant_api_Item_int_0 (t0 t1 t2 t8 t9 t10:Value)(w:World)(N1:List Value→World→Prop)(K:Ending→World→Prop):Prop:=
 DoX prog (mBin .lss 3 t9 t10) w (pk K) fun t17 w=>
 IfX t17 (DoX prog (mBin .add 3 t9 t10) w (pk K) fun t20 w=>
 DoX prog (mConv 3 58 t20) w (pk K) fun t21 w=>
 DoX prog (mBin .shr 58 t21 (.int .u64 1)) w (pk K) fun t22 w=>
 DoX prog (mConv 58 3 t22) w (pk K) fun t23 w=>
 DoX prog (mIA 45 t0 t23) w (pk K) fun t27 w=>
 DoX prog (mLoad 89 t27) w (pk K) fun t28 w=>
 DoX prog (mCallV t2 #[t28,t1]) w (pk K) fun t30 w=>
 DoX prog (mBin .lss 3 t30 (.int .i64 0)) w (pk K) fun t31 w=>
 IfX t31 (DoX prog (mBin .add 3 t23 (.int .i64 1)) w (pk K) fun t33 w=>
 N1 [t33,t10] w) (N1 [t9,t23] w)) (DoX prog (mBin .lss 3 t9 t8) w (pk K) fun t38 w=>
 GDo t38 true (fun E=>E t2 w) w fun t40 w=>
 GDo t38 true (fun E=>E t0 w) w fun t41 w=>
 GDo t38 true (fun E=>E t9 w) w fun t42 w=>
 GDo t38 true (fun E=>DoX prog (mIA 45 t41 t42) w (pk K) E) w fun t43 w=>
 GDo t38 true (fun E=>DoX prog (mLoad 89 t43) w (pk K) E) w fun t44 w=>
 GDo t38 true (fun E=>E t1 w) w fun t45 w=>
 GDo t38 true (fun E=>DoX prog (mCallV t40 #[t44,t45]) w (pk K) E) w fun t46 w=>
 GDo t38 true (fun E=>DoX prog (mEq .eql 3 (.tmp 46) (.const (.int .i64 0)) t46 (.int .i64 0)) w (pk K) E) w fun t47 w=>
 DoX prog (mPick t38 t47 (.bool false)) w (pk K) fun t48 w=>
 K (.returned (.tuple #[t9,t48])) w)
def S_slices_BinarySearchFunc_foliant_api_Item_foliant_api_Item_int (t0 t1 t2:Value)(w:World)(K:Ending→World→Prop):Prop:=
 DoX prog (mB .len #[45] 3 #[false] #[t0]) w (pk K) fun t13 w=>
 LoopX [(.int .i64 0),t13] w (fun vs1 w N1=>∀_:Sg,S_slices_BinarySearchFunc_foliant_api_Item_foliant_api_Item_int_0 t0 t1 t2 t13 (vs1.getD 0 undef) (vs1.getD 1 undef) w N1 K)
theorem S_slices_BinarySearchFunc_foliant_api_Item_foliant_api_Item_int_eq (t0 t1 t2:Value)(w:World)(K:Ending→World→Prop):wpX prog 49 [] [(3,[9,10])] none (bodyOf Tryz.f163) (topQ prog [.tmp 6,.tmp 7] K) (startX [t0,t1,t2]) [] w=S_slices_BinarySearchFunc_foliant_api_Item_foliant_api_Item_int t0 t1 t2 w K:=by kernel_rfl
theorem S_slices_BinarySearchFunc_foliant_api_Item_foliant_api_Item_int_ok {t0 t1 t2:Value}{w:World}{K:Ending→World→Prop}(h:S_slices_BinarySearchFunc_foliant_api_Item_foliant_api_Item_int t0 t1 t2 w K):Calls prog 163 #[t0,t1,t2] w K:=
 calls_of_wpX Tryz.func163 rfl rfl rfl rfl (Eq.mpr (S_slices_BinarySearchFunc_foliant_api_Item_foliant_api_Item_int_eq t0 t1 t2 w K) h)
def S_slices_IndexFunc_foliant_api_Item_foliant_api_Item_0 (t0 t1 t7 t8:Value)(w:World)(N1:List Value→World→Prop)(K:Ending→World→Prop):Prop:=
 DoX prog (mBin .lss 3 t8 t7) w (pk K) fun t9 w=>
 IfX t9 (DoX prog (mIA 45 t0 t8) w (pk K) fun t14 w=>
 DoX prog (mLoad 89 t14) w (pk K) fun t15 w=>
 DoX prog (mCallV t1 #[t15]) w (pk K) fun t16 w=>
 IfX t16 (K (.returned t8) w) (DoX prog (mBin .add 3 t8 (.int .i64 1)) w (pk K) fun t18 w=>
 N1 [t18] w)) (K (.returned (.int .i64 (-1))) w)
def S_slices_IndexFunc_foliant_api_Item_foliant_api_Item (t0 t1:Value)(w:World)(K:Ending→World→Prop):Prop:=
 DoX prog (mB .len #[45] 3 #[false] #[t0]) w (pk K) fun t7 w=>
 LoopX [(.int .i64 0)] w (fun vs1 w N1=>∀_:Sg,S_slices_IndexFunc_foliant_api_Item_foliant_api_Item_0 t0 t1 t7 (vs1.getD 0 undef) w N1 K)
theorem S_slices_IndexFunc_foliant_api_Item_foliant_api_Item_eq (t0 t1:Value)(w:World)(K:Ending→World→Prop):wpX prog 19 [] [(2,[8])] none (bodyOf Tryz.f83) (topQ prog [.tmp 4] K) (startX [t0,t1]) [] w=S_slices_IndexFunc_foliant_api_Item_foliant_api_Item t0 t1 w K:=by kernel_rfl
theorem S_slices_IndexFunc_foliant_api_Item_foliant_api_Item_ok {t0 t1:Value}{w:World}{K:Ending→World→Prop}(h:S_slices_IndexFunc_foliant_api_Item_foliant_api_Item t0 t1 w K):Calls prog 83 #[t0,t1] w K:=
 calls_of_wpX Tryz.func83 rfl rfl rfl rfl (Eq.mpr (S_slices_IndexFunc_foliant_api_Item_foliant_api_Item_eq t0 t1 w K) h)
def S_cmp_Compare_int (t0 t1:Value)(w:World)(K:Ending→World→Prop):Prop:=
 CallX prog 212 #[t0] w (pk K) fun t8 w=>
 CallX prog 212 #[t1] w (pk K) fun t10 w=>
 IfX t8 (IfX t10 (K (.returned (.int .i64 0)) w) (K (.returned (.int .i64 (-1))) w)) (IfX t10 (K (.returned (.int .i64 1)) w) (DoX prog (mBin .lss 3 t0 t1) w (pk K) fun t16 w=>
 IfX t16 (K (.returned (.int .i64 (-1))) w) (DoX prog (mBin .gtr 3 t0 t1) w (pk K) fun t19 w=>
 IfX t19 (K (.returned (.int .i64 1)) w) (K (.returned (.int .i64 0)) w))))
theorem S_cmp_Compare_int_eq (t0 t1:Value)(w:World)(K:Ending→World→Prop):wpX prog 20 [] [] none (bodyOf Tryz.f186) (topQ prog [.tmp 4] K) (startX [t0,t1]) [] w=S_cmp_Compare_int t0 t1 w K:=by kernel_rfl
theorem S_cmp_Compare_int_ok {t0 t1:Value}{w:World}{K:Ending→World→Prop}(h:S_cmp_Compare_int t0 t1 w K):Calls prog 186 #[t0,t1] w K:=
 calls_of_wpX Tryz.func186 rfl rfl rfl rfl (Eq.mpr (S_cmp_Compare_int_eq t0 t1 w K) h)
def S_cmp_isNaN_int (t0:Value)(w:World)(K:Ending→World→Prop):Prop:=
 DoX prog (mEq .neq 3 (.tmp 3) (.tmp 4) t0 t0) w (pk K) fun t5 w=>
 K (.returned t5) w
theorem S_cmp_isNaN_int_eq (t0:Value)(w:World)(K:Ending→World→Prop):wpX prog 6 [] [] none (bodyOf Tryz.f212) (topQ prog [.tmp 2] K) (startX [t0]) [] w=S_cmp_isNaN_int t0 w K:=by kernel_rfl
theorem S_cmp_isNaN_int_ok {t0:Value}{w:World}{K:Ending→World→Prop}(h:S_cmp_isNaN_int t0 w K):Calls prog 212 #[t0] w K:=
 calls_of_wpX Tryz.func212 rfl rfl rfl rfl (Eq.mpr (S_cmp_isNaN_int_eq t0 w K) h)
end
section
open Eng Go.RowKit
theorem ov_i {w:World}{a b:Addr}{la ca lb cb:Nat}(hne:a.block≠b.block){tA tB:TypeId}{kA kB:Nat}(hsa:w.shape? a.block=some (tA,kA))(hsb:w.shape? b.block=some (tB,kB))(hkB:kB≠0)(hfa:w.frozen? a=false)(hfe:w.frozen? { block:=a.block,off:=kA }=false) :
  (mCallV (.func (.func 187) #[] #[]) #[.slice (some a) la ca,.slice (some b) lb cb]).run prog w=.ok (.value (.bool false)) w:=by
 have hx:(callFunc 187 #[.slice (some a) la ca,.slice (some b) lb cb]).run prog w=.ok (.value (.bool false)) w:=by
  rw[run_callFunc_extern (e:=Extern.SlicesOverlaps.overlaps #[45,45] #[4]) Tryz.func187 (by kernel_rfl) (by kernel_rfl) (by kernel_rfl) (by kernel_rfl)];rw[Lib.run_overlaps_apart w 45 4 89 Tryz.underlying45 8 (fun w=>by kernel_rfl) a b la ca lb cb hne tA tB kA kB hsa hsb hkB hfa hfe];rfl
 simpa[mCallV,invoke,Deferred.ofValue,resolve] using hx
theorem sinsert_i_ret (v:Value)(n:Nat)(xs:List Value)(k nb:Nat)(new:List Value)(w:World)(hu:(Ent.urow 89 8 v n xs).is w)(hnb:w.heap[nb]?=some (.cells new.toArray 89 (0,0)))(hl:new.length=8)
  (hne:¬(Ent.urow 89 8 v n xs).blk nb) (h1:∀u∈xs,u.oneCell'=true) (h2:∀u∈new,u.oneCell'=true) (hk:k≤n) (hb:n≤100000000000) :
  Ret prog 165 #[v,.int .i64 (k:Int),.slice (some ⟨nb,0,none⟩) 1 1] w
   (fun v' w'=>∃e',e'=Ent.urow 89 8 v' (n+1) (xs.take (k*8)++new++xs.drop (k*8))∧Turn (.urow 89 8 v n xs) e' w w'):=by
 have hxl:xs.length=n*8:=(show w.ownsRow 0 89 8 v n xs from hu).1;have hs2:Sl w (.slice (some ⟨nb,0,none⟩) 1 1) 8 1 new:=⟨by omega,some ⟨nb,0,none⟩,1,rfl,fun h=>(by cases h),fun p hp=>by cases hp;exact⟨fun _=>rfl,fun j u hj=>by rw[Nat.zero_add];exact cells_cell (T:=89) hnb hj⟩⟩;have ho:=OwnS.lend hu;refine ret_of fun K hK=>S_slices_Insert_foliant_api_Item_foliant_api_Item_ok ?_;unfold S_slices_Insert_foliant_api_Item_foliant_api_Item;have hel:elB prog 89 8 104=true:=by kernel_rfl
 have hsz:(Tryz.prog.info? 89).map (·.size)=some 8:=by kernel_rfl
 obtain⟨a,cap,rfl,hcap⟩:∃a cap,v=.slice a n cap∧n≤cap:=by
  rcases (show w.ownsRow 0 89 8 v n xs from hu).2 with ⟨rfl,rfl⟩|⟨g,cap,cur,rfl,_,_,hnc,_⟩
  ·exact⟨none,0,rfl,Nat.le_refl _⟩
  ·exact⟨_,cap,rfl,hnc⟩
 refine do_eq (run_sl_l Tryz.underlying45 hsz (by omega) (by omega)) |>.mpr ?_;rw[sl_len Tryz.underlying45 hs2];simp only[rs,Int.natCast_one,Int.one_ne_zero,decide_false];rw[sl_len_any Tryz.underlying45];simp only[rs];by_cases hkn:k=n
 ·subst hkn;simp only[decide_true,rs];refine o_appendU 0 Tryz.underlying45 hel (by decide) ho rfl hs2 h2 (by omega) (by omega) fun v' w2 ho=>?_;refine hK _ _ ⟨_,rfl,?_⟩;have e:xs.take (k*8)++new++xs.drop (k*8)=xs++new:=by rw[List.take_of_length_le (by omega),List.drop_eq_nil_of_le (by omega),List.append_nil]
  rw[e];exact OwnS.back (L:=[]) ho
 have hlt:k < n:=by omega
 have hne':¬(k:Int)=(n:Int):=by omega
 simp only[hne',decide_false,rs];rcases (show w.ownsRow 0 89 8 (.slice a n cap) n xs from hu).2 with ⟨_,h0⟩|⟨g,cap',cur,he,hbg,hg,hnc,hcm,hcs,htake⟩
 ·omega
 injection he with he1 _ he2
 subst he1;subst he2;rw[wrap64_id (by omega) (by omega),cap_sl Tryz.underlying45];simp only[rs];have hgn:nb≠g:=fun e=>hne (by rw[e];rfl);have hcl:cur.toList.length=cap*8:=by simpa using hcs
 have hoc:OwnS (Ent.urow 89 8 (.slice (some ⟨g,0,none⟩) n cap) n xs).blk w w [.cells g cur.toList 89]:=
  ho.turn 0 rfl ⟨Grew.refl _ _,by show w.heap[g]?=_;rw[hg],fun j hj=>.inl (by simp only[Ent.cells] at hj;subst hj;rfl)⟩
 have hxc:∀j u,xs[j]?=some u→w.cell? ⟨g,0+j,none⟩=some u:=fun j u hj=>by
  rw[Nat.zero_add];exact hoc.cell 0 rfl j (by rw[←htake] at hj;rw[List.getElem?_take] at hj;split at hj<;>first|exact hj|cases hj)
 have htl:(xs.drop (k*8)).length=(n - k)*8:=by rw[List.length_drop,hxl,←Nat.mul_sub_right_distrib]
 have h1t:∀u∈xs.drop (k*8),u.oneCell'=true:=fun u hu=>h1 u (List.mem_of_mem_drop hu);by_cases hroom:(cap:Int) < (n:Int)+1
 ·simp only[hroom,decide_true,rs];refine do_eq (run_sl_h Tryz.underlying45 hsz (by omega) (by omega)) |>.mpr ?_;rw[show subA (some (⟨g,0,none⟩:Addr)) 0 cap 8=some ⟨g,0,none⟩ from subA_0 (a:=⟨g,0,none⟩),Int.toNat_natCast];rw[wrap64_id (n:=(n:Int)+1 - k) (by omega) (by omega),show (n:Int)+1 - k=((n+1 - k:Nat):Int) by omega];refine o_growZ (olds:=xs.take (k*8)) Tryz.underlying45 Tryz.underlying3 hel (by decide) hoc (by rw[List.length_take,hxl,Nat.min_eq_left (by omega)]) (fun j u hj=>hxc j u (by rw[List.getElem?_take] at hj;split at hj<;>first|exact hj|cases hj)) (by omega) (by omega) (by omega) (by omega) fun b c zs w2 hc1 hc2 hzs ho=>?_;rw[show k+(n+1 - k)=n+1 by omega] at hc1 ⊢;have hol:(xs.take (k*8)).length=k*8:=by rw[List.length_take,hxl,Nat.min_eq_left (by omega)]
  refine do_eq (run_sl_l Tryz.underlying45 hsz (by omega) (by omega)) |>.mpr ?_;rw[Int.toNat_natCast,subA_in (by omega)];have hbg2:b≠g:=by
   have:=(List.pairwise_cons.1 ho.apart).1 (.cells g cur.toList 89) (by simp);intro e;exact this b rfl e
  have old2:∀{W:World} {b':Nat} {x y:List Value},OwnS (Ent.urow 89 8 (.slice (some ⟨g,0,none⟩) n cap) n xs).blk w W [.cells b' x 89,.cells g y 89]→W.heap[nb]?=some (.cells new.toArray 89 (0,0)):=fun h=>(h.grew.block nb (lt_of_get hnb) hne).trans hnb;refine o_copyC 0 (src:=new) Tryz.underlying45 hsz ho rfl ?_ (fun j u hj=>by rw[add_none,Nat.zero_add];exact cells_cell (T:=89) (old2 ho) hj) ?_ h2 fun _ w3 ho=>?_
  ·rw[hl,Nat.min_eq_left (by omega)]
  ·rw[List.length_append,hol,hl];omega
  refine quiet ?_;refine q_add ?_;rw[wrap64_id (by omega) (by omega),show (k:Int)+1=((k+1:Nat):Int) by omega];refine q_do _ (fun W=>run_sl_l Tryz.underlying45 hsz (by omega) (by omega)) ?_;refine q_do _ (fun W=>run_sl_l Tryz.underlying45 hsz (by omega) (by omega)) ?_;rw[Int.toNat_natCast,Int.toNat_natCast,subA_in (by omega),subA_in (by omega)];intro w4 hw;have ho:=ho.grow hw;simp only[Nat.zero_add,List.take_left' hol,List.drop_append,hol] at ho;rw[show k*8+new.length - k*8=8 by omega,List.drop_eq_nil_of_le (show (xs.take (k*8)).length≤k*8+new.length by omega),List.nil_append] at ho;refine o_copyC 0 (src:=xs.drop (k*8)) Tryz.underlying45 hsz ho rfl ?_ (fun j u hj=>?_) ?_ h1t fun _ w5 ho=>?_
  ·rw[htl];congr 1;rw[Nat.min_eq_left (by omega)]
  ·rw[add_none];refine ho.cell 1 rfl (0+k*8+j) ?_;rw[List.getElem?_drop] at hj;rw[Nat.zero_add];rw[←htake] at hj;rw[List.getElem?_take] at hj;split at hj<;>first|exact hj|cases hj
  ·simp only[List.length_append,List.length_drop,hol,hl,hxl];omega
  have hcur:((xs.take (k*8)++new++zs.drop 8).take (0+(k+1)*8)++xs.drop (k*8)++(xs.take (k*8)++new++zs.drop 8).drop (0+(k+1)*8+(xs.drop (k*8)).length))=(xs.take (k*8)++new++xs.drop (k*8))++(zs.drop 8).drop ((n - k)*8):=by
   rw[List.take_left' (show (xs.take (k*8)++new).length=0+(k+1)*8 by rw[List.length_append,hol,hl];omega)];rw[List.drop_append,List.drop_eq_nil_of_le (show (xs.take (k*8)++new).length≤_ by rw[List.length_append,hol,hl,htl];omega),List.nil_append]
   congr 2
   rw[List.length_append,hol,hl,htl];omega
  simp only[List.set_cons_zero] at ho;rw[hcur] at ho;have ho:=ho.toU 8 (n+1) c (by simp only[List.length_append,List.length_drop,hol,hl,hxl];omega) hc1 hc2;rw[List.take_left' (show (xs.take (k*8)++new++xs.drop (k*8)).length=(n+1)*8 by simp only[List.length_append,List.length_drop,hol,hl,hxl];omega)] at ho;exact hK _ _ ⟨_,rfl,OwnS.back ho⟩
 ·have hroom':n+1≤cap:=by omega
  simp only[hroom,decide_false,rs];rw[show (n:Int)+1=((n+1:Nat):Int) by omega];refine do_eq (run_sl_h Tryz.underlying45 hsz (by omega) (by omega)) |>.mpr ?_;rw[show subA (some (⟨g,0,none⟩:Addr)) 0 cap 8=some ⟨g,0,none⟩ from subA_0 (a:=⟨g,0,none⟩),Int.toNat_natCast];rw[wrap64_id (n:=(k:Int)+1) (by omega) (by omega),show (k:Int)+1=((k+1:Nat):Int) by omega];refine do_eq (run_sl_l Tryz.underlying45 hsz (by omega) (by omega)) |>.mpr ?_;rw[Int.toNat_natCast,subA_in (by omega)];refine do_eq (ov_i (a:=⟨nb,0,none⟩) (b:=⟨g,0+(k+1)*8,none⟩) hgn (tA:=89) (tB:=89) (kA:=new.length) (kB:=cur.size) (by simp[World.shape?,hnb]) (by simp[World.shape?,hg]) (by rw[hcs];omega) (by simp[World.frozen?,hnb]) (by simp[World.frozen?,hnb])) |>.mpr ?_;simp only[rs,Bool.not_false];refine quiet ?_;refine q_add ?_;rw[wrap64_id (by omega) (by omega),show (k:Int)+1=((k+1:Nat):Int) by omega];refine q_do _ (fun W=>run_sl_l Tryz.underlying45 hsz (by omega) (by omega)) ?_;refine q_do _ (fun W=>run_sl_l Tryz.underlying45 hsz (by omega) (by omega)) ?_;rw[Int.toNat_natCast,Int.toNat_natCast,subA_in (by omega),subA_in (by omega)];intro w3 hw;have ho:=hoc.grow hw;have hxcur:∀j u,(xs.drop (k*8))[j]?=some u→cur.toList[k*8+j]?=some u:=fun j u hj=>by
   rw[List.getElem?_drop,←htake,List.getElem?_take] at hj;split at hj<;>first|exact hj|cases hj
  refine o_copyC 0 (src:=xs.drop (k*8)) Tryz.underlying45 hsz ho rfl ?_ (fun j u hj=>?_) ?_ h1t fun _ w4 ho=>?_
  ·rw[htl];congr 1;rw[Nat.min_eq_right (by omega)];omega
  ·rw[add_none,Nat.zero_add];exact ho.cell 0 rfl _ (hxcur j u hj)
  ·rw[htl,hcl];have:(n - k)*8+(k+1)*8=(n+1)*8:=by rw[←Nat.add_mul];congr 1;omega
   have:(n+1)*8≤cap*8:=Nat.mul_le_mul_right _ hroom';omega
  simp only[List.set_cons_zero] at ho;refine do_eq (run_sl_l Tryz.underlying45 hsz (by omega) (by omega)) |>.mpr ?_;rw[Int.toNat_natCast,subA_in (by omega)];have hnew:w4.heap[nb]?=some (.cells new.toArray 89 (0,0)):=(ho.grew.block nb (lt_of_get hnb) hne).trans hnb;have hkc:(k+1)*8≤cap*8:=Nat.mul_le_mul_right _ (by omega);have hnc2:(n+1)*8≤cap*8:=Nat.mul_le_mul_right _ hroom';have hsum:(n - k)*8+(k+1)*8=(n+1)*8:=by rw[←Nat.add_mul];congr 1;omega
  refine o_copyC 0 (src:=new) Tryz.underlying45 hsz ho rfl ?_ (fun j u hj=>by rw[add_none,Nat.zero_add];exact cells_cell (T:=89) hnew hj) ?_ h2 fun _ w5 ho=>?_
  ·rw[hl,Nat.min_eq_left (by omega)]
  ·simp only[List.length_append,List.length_take,List.length_drop,hcl,hl,htl];omega
  simp only[List.set_cons_zero] at ho;have hck:cur.toList.take (k*8)=xs.take (k*8):=by
   rw[←htake,List.take_take,Nat.min_eq_left (Nat.mul_le_mul_right _ (by omega))]
  have hcur:((cur.toList.take (0+(k+1)*8)++xs.drop (k*8)++cur.toList.drop (0+(k+1)*8+(xs.drop (k*8)).length)).take (0+k*8)++new++(cur.toList.take (0+(k+1)*8)++xs.drop (k*8)++cur.toList.drop (0+(k+1)*8+(xs.drop (k*8)).length)).drop (0+k*8+new.length))
   =(xs.take (k*8)++new++xs.drop (k*8))++cur.toList.drop (0+(k+1)*8+(xs.drop (k*8)).length):=by
   have hlt:(cur.toList.take (0+(k+1)*8)).length=0+(k+1)*8:=by rw[List.length_take,hcl];omega
   rw[List.append_assoc (cur.toList.take (0+(k+1)*8))];rw[List.take_append_of_le_length (by rw[hlt];omega),List.take_take,Nat.min_eq_left (by omega),Nat.zero_add,hck];rw[List.drop_append,List.drop_eq_nil_of_le (show (cur.toList.take (0+(k+1)*8)).length≤k*8+new.length by rw[hlt,hl];omega),List.nil_append];rw[show k*8+new.length - (cur.toList.take (0+(k+1)*8)).length=0 by rw[hlt,hl];omega,List.drop_zero];simp only[Nat.zero_add,List.append_assoc]
  rw[hcur] at ho;have ho:=ho.toU 8 (n+1) cap (by simp only[List.length_append,List.length_take,List.length_drop,hcl,hl,hxl];omega) hroom' (by simp only[maxLen] at hcm;exact hcm);rw[List.take_left' (show (xs.take (k*8)++new++xs.drop (k*8)).length=(n+1)*8 by simp only[List.length_append,List.length_take,List.length_drop,hl,hxl];omega)] at ho;exact hK _ _ ⟨_,rfl,OwnS.back ho⟩
end
section
open Eng Go.RowKit
theorem find_idx {α:Type}(p:α→Bool):∀l:List α,l.find? p=l[l.findIdx p]?
|[]=>rfl
|a::l=>by
  rw[List.find?_cons,List.findIdx_cons];cases h:p a with
 |true=>simp
 |false=>simp[find_idx p l]
theorem findIdx_at {α:Type}{p:α→Bool}{l:List α}{i:Nat}(hi:i < l.length)(h1:∀m (h:m < l.length),m < i→p l[m]=false)(h2:p l[i]=true):l.findIdx p=i:=by
 have hle:l.findIdx p≤i:=by
  rcases Nat.lt_or_ge i (l.findIdx p) with h|h
  ·have:=List.not_of_lt_findIdx h;rw[h2] at this;simp at this
  ·exact h
 rcases Nat.lt_or_ge (l.findIdx p) i with h|h
 ·have hlt:l.findIdx p < l.length:=by omega
  have:=h1 _ hlt h;have hp:=List.findIdx_getElem (w:=hlt);rw[this] at hp;cases hp
 ·omega
def ixV (l:List It)(p:It→Bool):Value:=.int .i64 (if l.findIdx p < l.length then (l.findIdx p:Int) else -1)
theorem ixf_ret (l:List It)(vi:Value)(cs:List Value)(M:Mem)(w:World)(f:Nat)(ca:Array Value)(p:It→Bool)(I:World→Prop)(hf:plainB prog f=true)(hl:l.length≤10000000000)(hs:SlA M.A M.w vi 8 l.length cs)(hall:IVs M.A M.w cs l)
  (hI:I w) (hB:∀W W',I W→Below W.heap.size W W'→I W') (hM:∀W,I W→M.has W)
  (hp:∀(i:It) (vk vc:Value) (W:World),I W→vk.oneCell'=true→vc.oneCell'=true→Ret prog f (#[]++#[itV i vk vc]++ca) W (fun v w'=>v=.bool (p i)∧Below W.heap.size W w')) :
  Ret prog 83 #[vi,.func (.func f) #[] ca] w (fun v w'=>v=ixV l p∧Below w.heap.size w w'):=by
 refine ret_of fun K hK=>S_slices_IndexFunc_foliant_api_Item_foliant_api_Item_ok ?_;unfold S_slices_IndexFunc_foliant_api_Item_foliant_api_Item;rw[sl_len Tryz.underlying45 (hs.now (hM w hI))];refine loop (fun vs W=>∃i:Nat,vs=[.int .i64 i]∧i≤l.length∧(∀m (h:m < l.length),m < i→p l[m]=false)∧I W∧Own w W []) (fun vs _=>l.length - n0 vs) ⟨0,rfl,by omega,fun m _ h=>by omega,hI,Own.start w⟩ ?_;rintro vs w1 ⟨i,rfl,hi,hlo,hI1,ho⟩ _;simp only[S_slices_IndexFunc_foliant_api_Item_foliant_api_Item_0,gd,rs];by_cases hlt:(i:Int) < (l.length:Int)
 ·have hi':i < l.length:=by omega
  simp only[hlt,decide_true,i_t];obtain⟨vk,vc,bi,oi,hv,hr⟩:=item_at hs hall hi';obtain⟨r1,r2⟩:=hr w1 (hM w1 hI1);refine do_eq r1 |>.mpr (do_eq (run_it r2) |>.mpr ?_);refine c_val hf (c_ret (hp l[i] vk vc w1 hI1 hv.oneK hv.oneC) ?_);rintro _ w2 ⟨rfl,hb⟩;have ho:=ho.grow hb;cases hc:p l[i] with
 |true=>
   simp only[i_t];have:=findIdx_at hi' hlo hc;exact hK _ _ ⟨by unfold ixV;rw[this,if_pos hi'],ho.done⟩
 |false=>
   simp only[i_f];rw[wrap64_id (by omega) (by omega)];refine nextX ⟨i+1,rfl,by omega,fun m hm hmi=>?_,hB _ _ hI1 hb,ho⟩ (by simp[n0,RowKit.intOf];omega);rcases Nat.lt_or_ge m i with h|h
   ·exact hlo m hm h
   ·have:m=i:=by omega
    subst this;exact hc
 ·simp only[hlt,decide_false,i_f];refine hK _ _ ⟨?_,ho.done⟩;have:¬l.findIdx p < l.length:=by
   intro h;have h1:=hlo _ h (by omega);have h2:=List.findIdx_getElem (w:=h);rw[h1] at h2;cases h2
  unfold ixV;rw[if_neg this]
theorem follow1_plain:plainB prog 84=true:=by kernel_rfl
theorem follow1_ret (i:It)(o:Ob){vk vc xk xc:Value}{b:Nat}(W:World)(hb:(obE b o xk xc).is W)(hk:vk.oneCell'=true)(hc:vc.oneCell'=true) :
  Ret prog 84 #[itV i vk vc,.pointer (some ⟨b,0,none⟩)] W (fun v w'=>v=.bool (decide (i.num=o.n))∧Below W.heap.size W w'):=by
 refine ret_of fun K hK=>S_docs_Follow_1_ok ?_;unfold S_docs_Follow_1;refine o_itb i hk hc (Own.start W) fun b2 w1 ho=>?_;have h1:w1.cell? ⟨b,0+1,none⟩=some (.int .i64 o.n):=ho.old (cells_cell (show (Ent.cells b (obC o xk xc) 48).is W from hb) (i:=1) rfl);rw[fa_i0,it_num ho 0 rfl,fa_o1,l_cell nI65 h1];simp only[rs];exact hK _ _ ⟨rfl,ho.done⟩
structure Dk.Ok (d:Dc):Prop where
 len:d.items.length≤10000000000
 items:∀i∈d.items,i.obj.wt≤1000000000
 trailer:d.trailer.wt≤1000000000
theorem Dk.find_ok {d:Dc}(h:Dk.Ok d){n:Int}{i:It}(hi:Dk.find d.items n=some i):i∈d.items∧i.obj.wt≤1000000000:=by
 have:=List.mem_of_find?_eq_some hi;exact⟨this,h.items i this⟩
theorem ob0_wt:Vl.ob0.wt=6:=by rw[Vl.wt_eq];rfl
theorem Dk.follow_wt {d:Dc}(h:Dk.Ok d){o:Ob}(hw:o.wt≤1000000000):(Dk.follow d o).wt≤1000000000:=by
 unfold Dk.follow;split
 ·exact hw
 ·unfold Dk.pick;split
  ·rw[ob0_wt];omega
  ·rename_i i hi
   split
   ·rw[ob0_wt];omega
   ·exact (Dk.find_ok h hi).2
section
variable {w:World}{S:Nat→Prop}{w0:World}{L:List Ent}
theorem ret_obi {K:Ending→World→Prop}{b:Nat}{o:Ob}{vk vc:Value}(i:Nat)(ho:OwnS S w0 w L)(hi:L[i]?=some (obE b o vk vc))(k:K (.returned (obV o vk vc)) w):RetX prog [.cell (.pointer (some ⟨b,0,none⟩)) 48] w K:=ret_v1 (rv_cell (ho.agg i hi aggOb)) k
end
theorem dfollow_ret (d:Dc)(o:Ob)(dv v:Value)(M:Mem)(w:World)(hd:Dk.Ok d)(hw:o.wt≤1000000000)(hM:M.has w)(hdv:DV M.A M.w dv d)(hv:OV M.A M.w v o) :
  RetM prog 49 #[dv,v] M w (fun r N=>OV N.A N.w r (Dk.follow d o)):=by
 obtain⟨vk,vc,ocs,rfl,ha⟩:=hv.open;obtain⟨vi,tk,tc,cs,rfl,hda⟩:=hdv;refine retM_of hM fun K hK=>S_docs_Follow_ok ?_;unfold S_docs_Follow;refine o_dcb d hda.items.one hda.trailer.oneK hda.trailer.oneC (OwnS.memS hM) fun b2 w1 ho=>?_;refine o_obb o ha.keys.one ha.kids.one ho fun b3 w2 ho=>?_;refine o_oba ho fun b4 w3 ho=>?_;rw[fa_o0,ob_k ho 1 rfl];simp only[rs];by_cases h8:o.k=8
 case neg=>
  simp only[h8,ne_eq,not_false_eq_true,decide_true,i_t];rw[ob_v ho 1 rfl];refine c_mem ho 3 rfl (clone_ret o _ M w3 (by omega) (ho.hasM 3 rfl) hv) fun y N w4 hle hy ho=>?_;obtain⟨yk,yc,ycs,rfl,hya⟩:=hy.open;refine ob_put 0 hya.keys.one hya.kids.one ho rfl fun w5 ho=>?_;refine ret_obi 0 ho rfl (hK _ _ N _ 3 ho rfl hle ?_);unfold Dk.follow;rw[if_pos h8];exact hy
 simp only[h8,ne_eq,not_true,decide_false,i_f];rw[fa_d0,dc_items ho 2 rfl];have hfo:Dk.follow d o=Dk.pick (Dk.find d.items o.n) o.g:=by unfold Dk.follow;rw[if_neg (by simp[h8])]
 have hfi:Dk.find d.items o.n=d.items[d.items.findIdx (fun i=>decide (i.num=o.n))]?:=find_idx _ _;refine c_below ho (R:=fun v=>v=ixV d.items (fun i=>decide (i.num=o.n))) (ixf_ret d.items vi cs M w3 84 #[.pointer (some ⟨b3,0,none⟩)] (fun i=>decide (i.num=o.n)) (fun W=>(obE b3 o vk vc).is W∧M.has W) follow1_plain hd.len hda.items hda.all
  ⟨ho.at_ 1 rfl,ho.hasM 3 rfl⟩ (fun W W' h hb=>⟨(obE b3 o vk vc).keep h.1 fun k hk=>hb.block k ((obE b3 o vk vc).lt h.1 k hk),Mem.has_below h.2 hb⟩) (fun W h=>h.2)
  (fun i xk xc W h hk hc=>follow1_ret i o W h.1 hk hc)) ?_
 rintro _ w4 rfl ho;have no:∀{W:World},OwnS M.A w W [obE b4 ob0 nilS nilS,obE b3 o vk vc,dcE b2 d vi tk tc,.mem M]→Dk.follow d o=Vl.ob0→DoX prog (mBuild 48 #[]) W (pk K) (fun t W=>DoX prog (mStore 48 (.pointer (some ⟨b4,0,none⟩)) t) W (pk K) fun _ W=>RetX prog [.cell (.pointer (some ⟨b4,0,none⟩)) 48] W K):=by
  intro W ho hg;rw[m_ob0];refine ob_put 0 rfl rfl ho rfl fun w4 ho=>?_;exact ret_obi 0 ho rfl (hK _ _ M _ 3 ho rfl M.le_refl (by rw[hg];exact ob0_ov M))
 unfold ixV;by_cases hix:d.items.findIdx (fun i=>decide (i.num=o.n)) < d.items.length
 ·rw[if_pos hix];rw[List.getElem?_eq_getElem hix] at hfi;rw[hfi] at hfo;simp only[Dk.pick] at hfo;have hwi:=hd.items _ (List.getElem_mem hix);generalize d.items.findIdx (fun i=>decide (i.num=o.n))=ix at *;obtain⟨xk,xc,bi,oi,hx,hr⟩:=item_at hda.items hda.all hix;have hMW:∀W,Below w4.heap.size w4 W→M.has W:=fun W hW=>Mem.has_below (ho.hasM 3 rfl) hW;have hn:¬((ix:Int) < 0):=by omega
  refine quiet (q_lss ?_);simp only[hn,decide_false,gq];refine q_do _ (fun _=>run_fa fo_d0) ?_;refine q_at vi (fun W hW=>run_load_cell nSlIt ((ho.grow hW).cell 2 rfl 0 rfl)) ?_;refine q_at _ (fun W hW=>(hr W (hMW W hW)).1) ?_;refine q_do _ (fun _=>run_fa fo_i1) ?_;refine q_at (.int .i64 d.items[ix].gen) (fun W hW=>run_load_cell nInt5 ((hr W (hMW W hW)).2 1 _ rfl)) ?_;refine q_do _ (fun _=>run_fa fo_o2) ?_;refine q_at (.int .i64 o.g) (fun W hW=>run_load_cell nInt5 ((ho.grow hW).cell 1 rfl 2 rfl)) ?_;refine q_ne ?_;refine q_pf ?_;intro w5 hW;have ho:=ho.grow hW;by_cases hg:d.items[ix].gen=o.g
  ·simp only[hg,ne_eq,not_true,decide_false,i_f];rw[if_neg (by simp[hg])] at hfo;rw[fa_d0,dc_items ho 2 rfl];obtain⟨r1,r2⟩:=hr w5 (ho.hasM 3 rfl);refine do_eq r1 |>.mpr ?_;rw[fa_i2];refine do_eq (run_load_at (T:=48) (a:=⟨bi,oi+2,none⟩) (AtV.agg aggOb (cs:=obC d.items[ix].obj xk xc) rfl fun j u hj=>by rw[Nat.add_assoc];exact r2 (2+j) u (by rw[Nat.add_comm];exact hj))) |>.mpr ?_;refine c_mem ho 3 rfl (clone_ret _ _ M w5 (by omega) (ho.hasM 3 rfl) hx) fun y N w6 hle hy ho=>?_;obtain⟨yk,yc,ycs,rfl,hya⟩:=hy.open;refine ob_put 0 hya.keys.one hya.kids.one ho rfl fun w7 ho=>?_;exact ret_obi 0 ho rfl (hK _ _ N _ 3 ho rfl hle (by rw[hfo];exact hy))
  ·simp only[hg,ne_eq,not_false_eq_true,decide_true,i_t];rw[if_pos hg] at hfo;exact no ho hfo
 ·rw[if_neg hix];rw[List.getElem?_eq_none (by omega)] at hfi;rw[hfi] at hfo;simp only[Dk.pick] at hfo;refine quiet (q_lss ?_);have hn:((-1:Int) < 0):=by omega
  simp only[hn,decide_true,gq];refine q_pt ?_;intro w5 hW;simp only[i_t];exact no (ho.grow hW) hfo
end
section
open Eng Go.RowKit
def IV (A:Nat→Prop)(w:World)(v:Value)(i:It):Prop:=∃vk vc,v=itV i vk vc∧OV A w (obV i.obj vk vc) i.obj
theorem Vl.got_wt {o v:Ob}{k:List UInt8}(h:Vl.get o k=some v):v.wt≤o.wt:=by
 unfold Vl.get at h;split at h
 ·split at h
  ·rename_i h1 h2
   obtain⟨hl,rfl⟩:=List.getElem?_eq_some_iff.1 h;have:=kid_wt hl;omega
  ·cases h
 ·cases h
theorem str_at {M:Mem}{v:Value}{l:List (List UInt8)}(hs:SlA M.A M.w v 1 l.length (strsV l)){i:Nat}(hi:i < l.length) :
  ∃p,∀W,M.has W→(mIA 23 v (.int .i64 (i:Int))).run prog W=.ok (.value (.pointer (some p))) W∧(mLoad 9 (.pointer (some p))).run prog W=.ok (.value (.string ⟨l[i].toArray⟩)) W:=by
 obtain⟨b,off,cap,rfl,_⟩:=sl_open hs.1 (by omega);refine⟨⟨b,off+i,none⟩,fun W hk=>⟨?_,?_⟩⟩
 ·have:=run_ia (P:=prog) (T:=23) (b:=b) (off:=off) (cap:=cap) (n:=l.length) (k:=.i64) (i:=(i:Int)) (w:=W) Tryz.underlying23 (show _=some 1 by kernel_rfl) (by omega) (by omega);rw[Int.toNat_natCast,Nat.mul_one] at this;exact this
 ·obtain⟨b',off',cap',he,hc⟩:=sl_open (hs.now hk) (by omega);cases he;exact run_load_cell nStr5 (hc i _ (strsV_get hi))
section
variable {w:World}{S:Nat→Prop}{w0:World}{L:List Ent}
theorem ret_it {K:Ending→World→Prop}{b:Nat}{o:It}{vk vc:Value}(i:Nat)(ho:OwnS S w0 w L)(hi:L[i]?=some (itE b o vk vc))(k:K (.returned (itV o vk vc)) w):RetX prog [.cell (.pointer (some ⟨b,0,none⟩)) 89] w K:=
 ret_v1 (rv_cell (ho.agg i hi aggIt)) k
theorem o_nb {PK:PKT}{K:VWP}(n:Int)(ho:OwnS S w0 w L)(k:∀b w',OwnS S w0 w' (.cells b [.int .i64 n] 3::L)→K (.pointer (some ⟨b,0,none⟩)) w'):DoX prog (mBox 3 (.int .i64 n)) w PK K:=
 o_new (fun b=>.pointer (some ⟨b,0,none⟩)) [.int .i64 n] 3 (fun _=>by kernel_rfl) ho k
end
theorem copied_ret (i:It){vk vc:Value}(M:Mem)(w:World)(hw:i.obj.wt≤100000000000)(hM:M.has w)(hv:OV M.A M.w (obV i.obj vk vc) i.obj) :
  RetM prog 162 #[itV i vk vc] M w (fun r N=>IV N.A N.w r i):=by
 refine retM_of hM fun K hK=>S_docs_copied_ok ?_;unfold S_docs_copied;refine o_itb i hv.oneK hv.oneC (OwnS.memS hM) fun b w1 ho=>?_;refine o_ita ho fun b2 w2 ho=>?_;rw[fa_i2,it_obj ho 1 rfl];refine c_mem ho 2 rfl (clone_ret i.obj _ M w2 hw (ho.hasM 2 rfl) hv) fun y N w3 hle hy ho=>?_;obtain⟨yk,yc,ycs,rfl,hya⟩:=hy.open;rw[fa_i2];refine it_putO 1 hy.oneK hy.oneC ho rfl fun w4 ho=>?_;rw[it_v ho 1 rfl];refine it_put 0 hy.oneK hy.oneC ho rfl fun w5 ho=>?_;exact ret_it 0 ho rfl (hK _ _ N _ 2 ho rfl hle ⟨yk,yc,rfl,hy⟩)
theorem Dk.path_none (d:Dc)(o:Ob){l:List (List UInt8)}{i:Nat}(h:i < l.length)(hg:Vl.get o l[i]=none):Dk.path d o (l.drop i)=Vl.ob0:=by
 rw[List.drop_eq_getElem_cons h,Dk.path,hg]
theorem Dk.path_some (d:Dc)(o:Ob){v:Ob}{l:List (List UInt8)}{i:Nat}(h:i < l.length)(hg:Vl.get o l[i]=some v):Dk.path d o (l.drop i)=Dk.path d (Dk.follow d v) (l.drop (i+1)):=by
 rw[List.drop_eq_getElem_cons h,Dk.path,hg]
theorem dpath_ret (d:Dc)(o:Ob)(ks:List (List UInt8))(dv v kv:Value)(M:Mem)(w:World)(hd:Dk.Ok d)(hw:o.wt≤1000000000)(hl:ks.length≤1000000000)(hM:M.has w)(hdv:DV M.A M.w dv d)(hv:OV M.A M.w v o)(hk:SlA M.A M.w kv 1 ks.length (strsV ks)) :
  RetM prog 116 #[dv,v,kv] M w (fun r N=>OV N.A N.w r (Dk.path d (Dk.follow d o) ks)):=by
 obtain⟨vk,vc,ocs,rfl,ha⟩:=hv.open;obtain⟨vi,tk,tc,cs,rfl,hda⟩:=hdv;refine retM_of hM fun K hK=>S_docs_Path_ok ?_;unfold S_docs_Path;refine o_dcb d hda.items.one hda.trailer.oneK hda.trailer.oneC (OwnS.memS hM) fun b2 w1 ho=>?_;refine o_obb o ha.keys.one ha.kids.one ho fun b3 w2 ho=>?_;refine o_oba ho fun b4 w3 ho=>?_;rw[dc_v ho 2 rfl,ob_v ho 1 rfl];refine c_mem ho 3 rfl (dfollow_ret d o _ _ M w3 hd hw (ho.hasM 3 rfl) hda.dv hv) fun y N w4 hle hy ho=>?_;obtain⟨yk,yc,ycs,rfl,hya⟩:=hy.open;refine ob_put 1 hya.keys.one hya.kids.one ho rfl fun w5 ho=>?_;rw[sl_len Tryz.underlying23 (hk.now (Mem.has_of hle (ho.hasM 3 rfl)))];refine loop (fun vs W=>∃(i:Nat) (N:Mem) (cur:Ob) (ck cc:Value),vs=[.int .i64 i]∧i≤ks.length∧M.le N∧cur.wt≤1000000000∧OV N.A N.w (obV cur ck cc) cur∧Dk.path d (Dk.follow d o) ks=Dk.path d cur (ks.drop i)∧OwnS M.A w W [obE b4 ob0 nilS nilS,obE b3 cur ck cc,dcE b2 d vi tk tc,.mem N]) (fun vs _=>ks.length - n0 vs)
  ⟨0,N,Dk.follow d o,yk,yc,rfl,by omega,hle,Dk.follow_wt hd hw,hy,by rw[List.drop_zero],ho⟩ ?_
 clear ho;rintro vs w6 ⟨i,N,cur,ck,cc,rfl,hi,hle,hcw,hc,he,ho⟩ _;simp only[S_docs_Path_0,gd,rs];by_cases hlt:(i:Int) < (ks.length:Int)
 ·have hi':i < ks.length:=by omega
  simp only[hlt,decide_true,i_t];obtain⟨p,hr⟩:=str_at hk hi';obtain⟨r1,r2⟩:=hr w6 (Mem.has_of hle (ho.hasM 3 rfl));refine do_eq r1 |>.mpr (do_eq r2 |>.mpr ?_);rw[ob_v ho 1 rfl];refine c_mem ho 3 rfl (vget_ret cur _ ks[i] N w6 (by omega) (ho.hasM 3 rfl) hc) ?_;rintro _ N2 w7 hle2 ⟨t,rfl,ht⟩ ho;obtain⟨tk',tc',rfl,ht⟩:=getD_ov ht;simp only[getV,ex];refine o_oba ho fun b6 w8 ho=>?_;refine ob_put 0 ht.oneK ht.oneC ho rfl fun w9 ho=>?_;cases hg:Vl.get cur ks[i] with
 |none=>
   rw[Dk.path_none d cur hi' hg] at he;simp only[rs,Option.isSome_none,Bool.not_false];rw[m_ob0];refine ob_put 1 rfl rfl ho rfl fun w10 ho=>?_;exact ret_obi 1 ho rfl (hK _ _ N2 _ 4 ho rfl (hle.trans hle2) (by rw[he];exact ob0_ov N2))
 |some x=>
   rw[Dk.path_some d cur hi' hg] at he;rw[hg] at ht ho;have hxw:=Vl.got_wt hg;simp only[rs,Option.isSome_some,Bool.not_true];rw[dc_v ho 3 rfl,ob_v ho 0 rfl];refine c_mem ho 4 rfl (dfollow_ret d x _ _ N2 w9 hd (by omega) (ho.hasM 4 rfl) ((hda.le (hle.trans hle2)).dv) ht) fun y N3 w10 hle3 hy ho=>?_;obtain⟨yk,yc,ycs,rfl,hya⟩:=hy.open;refine ob_put 2 hya.keys.one hya.kids.one ho rfl fun w11 ho=>?_;rw[wrap64_id (by omega) (by omega)];exact nextX ⟨i+1,N3,Dk.follow d x,yk,yc,rfl,by omega,(hle.trans hle2).trans hle3,Dk.follow_wt hd (by omega),hy,he,ho.tail⟩ (by simp[n0,RowKit.intOf];omega)
 ·simp only[hlt,decide_false,i_f];rw[List.drop_eq_nil_of_le (by omega)] at he;rw[ob_v ho 1 rfl];refine ob_put 0 hc.oneK hc.oneC ho rfl fun w7 ho=>?_;exact ret_obi 0 ho rfl (hK _ _ N _ 3 ho rfl hle (by rw[he];exact hc))
end
section
open Eng
def S_slices_IndexFunc_foliant_api_Map_foliant_api_Map_0 (t0 t1 t7 t8:Value)(w:World)(N1:List Value→World→Prop)(K:Ending→World→Prop):Prop:=
 DoX prog (mBin .lss 3 t8 t7) w (pk K) fun t9 w=>
 IfX t9 (DoX prog (mIA 24 t0 t8) w (pk K) fun t14 w=>
 DoX prog (mLoad 44 t14) w (pk K) fun t15 w=>
 DoX prog (mCallV t1 #[t15]) w (pk K) fun t16 w=>
 IfX t16 (K (.returned t8) w) (DoX prog (mBin .add 3 t8 (.int .i64 1)) w (pk K) fun t18 w=>
 N1 [t18] w)) (K (.returned (.int .i64 (-1))) w)
def S_slices_IndexFunc_foliant_api_Map_foliant_api_Map (t0 t1:Value)(w:World)(K:Ending→World→Prop):Prop:=
 DoX prog (mB .len #[24] 3 #[false] #[t0]) w (pk K) fun t7 w=>
 LoopX [(.int .i64 0)] w (fun vs1 w N1=>∀_:Sg,S_slices_IndexFunc_foliant_api_Map_foliant_api_Map_0 t0 t1 t7 (vs1.getD 0 undef) w N1 K)
theorem S_slices_IndexFunc_foliant_api_Map_foliant_api_Map_eq (t0 t1:Value)(w:World)(K:Ending→World→Prop):wpX prog 19 [] [(2,[8])] none (bodyOf Tryz.f52) (topQ prog [.tmp 4] K) (startX [t0,t1]) [] w=S_slices_IndexFunc_foliant_api_Map_foliant_api_Map t0 t1 w K:=by kernel_rfl
theorem S_slices_IndexFunc_foliant_api_Map_foliant_api_Map_ok {t0 t1:Value}{w:World}{K:Ending→World→Prop}(h:S_slices_IndexFunc_foliant_api_Map_foliant_api_Map t0 t1 w K):Calls prog 52 #[t0,t1] w K:=
 calls_of_wpX Tryz.func52 rfl rfl rfl rfl (Eq.mpr (S_slices_IndexFunc_foliant_api_Map_foliant_api_Map_eq t0 t1 w K) h)
def S_strings_CutPrefix (t0 t1:Value)(w:World)(K:Ending→World→Prop):Prop:=
 CallX prog 90 #[t0,t1] w (pk K) fun t8 w=>
 DoX prog (mExt t8 0) w (pk K) fun t9 w=>
 DoX prog (mExt t8 1) w (pk K) fun t10 w=>
 K (.returned (.tuple #[t9,t10])) w
theorem S_strings_CutPrefix_eq (t0 t1:Value)(w:World)(K:Ending→World→Prop):wpX prog 11 [] [] none (bodyOf Tryz.f54) (topQ prog [.tmp 4,.tmp 5] K) (startX [t0,t1]) [] w=S_strings_CutPrefix t0 t1 w K:=by kernel_rfl
theorem S_strings_CutPrefix_ok {t0 t1:Value}{w:World}{K:Ending→World→Prop}(h:S_strings_CutPrefix t0 t1 w K):Calls prog 54 #[t0,t1] w K:=
 calls_of_wpX Tryz.func54 rfl rfl rfl rfl (Eq.mpr (S_strings_CutPrefix_eq t0 t1 w K) h)
def S_internal_stringslite_CutPrefix (t0 t1:Value)(w:World)(K:Ending→World→Prop):Prop:=
 CallX prog 125 #[t0,t1] w (pk K) fun t8 w=>
 DoX prog (mUn .not t8) w (pk K) fun t9 w=>
 IfX t9 (K (.returned (.tuple #[t0,(.bool false)])) w) (DoX prog (mB .len #[9] 3 #[false] #[t1]) w (pk K) fun t13 w=>
 DoX prog (mSlice 9 t0 (some t13) none none) w (pk K) fun t14 w=>
 K (.returned (.tuple #[t14,(.bool true)])) w)
theorem S_internal_stringslite_CutPrefix_eq (t0 t1:Value)(w:World)(K:Ending→World→Prop):wpX prog 15 [] [] none (bodyOf Tryz.f90) (topQ prog [.tmp 4,.tmp 5] K) (startX [t0,t1]) [] w=S_internal_stringslite_CutPrefix t0 t1 w K:=by kernel_rfl
theorem S_internal_stringslite_CutPrefix_ok {t0 t1:Value}{w:World}{K:Ending→World→Prop}(h:S_internal_stringslite_CutPrefix t0 t1 w K):Calls prog 90 #[t0,t1] w K:=
 calls_of_wpX Tryz.func90 rfl rfl rfl rfl (Eq.mpr (S_internal_stringslite_CutPrefix_eq t0 t1 w K) h)
def S_font_Usual_0 (t1 t2 t8:Value)(w:World)(N1:List Value→World→Prop)(K:Ending→World→Prop):Prop:=
 DoX prog (mBin .lss 3 t8 (.int .i64 26)) w (pk K) fun t9 w=>
 IfX t9 (DoX prog (mLoad 23 t1) w (pk K) fun t11 w=>
 DoX prog (mBin .add 3 (.int .i64 65) t8) w (pk K) fun t13 w=>
 DoX prog (mBin .add 3 (.int .i64 65) t8) w (pk K) fun t15 w=>
 DoX prog (mConv 3 5 t15) w (pk K) fun t16 w=>
 DoX prog (mBuildS 41 1 #[(0,t16)]) w (pk K) fun t17 w=>
 DoX prog (mConv 41 9 t17) w (pk K) fun t18 w=>
 DoX prog (mIA 23 t11 t13) w (pk K) fun t19 w=>
 DoX prog (mStore 9 t19 t18) w (pk K) fun _ w=>
 DoX prog (mLoad 23 t1) w (pk K) fun t20 w=>
 DoX prog (mBin .add 3 (.int .i64 97) t8) w (pk K) fun t22 w=>
 DoX prog (mBin .add 3 (.int .i64 97) t8) w (pk K) fun t24 w=>
 DoX prog (mConv 3 5 t24) w (pk K) fun t25 w=>
 DoX prog (mBuildS 41 1 #[(0,t25)]) w (pk K) fun t26 w=>
 DoX prog (mConv 41 9 t26) w (pk K) fun t27 w=>
 DoX prog (mIA 23 t20 t22) w (pk K) fun t28 w=>
 DoX prog (mStore 9 t28 t27) w (pk K) fun _ w=>
 DoX prog (mBin .add 3 t8 (.int .i64 1)) w (pk K) fun t29 w=>
 N1 [t29] w) (DoX prog (mCallV t2 #[(.int .i64 91),(.string ⟨#[98,114,97,99,107,101,116,108,101,102,116,32,98,97,99,107,115,108,97,115,104,32,98,114,97,99,107,101,116,114,105,103,104,116,32,97,115,99,105,105,99,105,114,99,117,109,32,117,110,100,101,114,115,99,111,114,101,32,103,114,97,118,101]⟩)]) w (pk K) fun t31 w=>
 DoX prog (mCallV t2 #[(.int .i64 123),(.string ⟨#[98,114,97,99,101,108,101,102,116,32,98,97,114,32,98,114,97,99,101,114,105,103,104,116,32,97,115,99,105,105,116,105,108,100,101]⟩)]) w (pk K) fun t33 w=>
 DoX prog (mLoad 23 t1) w (pk K) fun t34 w=>
 K (.returned t34) w)
def S_font_Usual (w:World)(K:Ending→World→Prop):Prop:=
 DoX prog (mMake 23 (.int .i64 256) (.int .i64 256)) w (pk K) fun t4 w=>
 DoX prog (mAlloc 23) w (pk K) fun t1 w=>
 DoX prog (mStore 23 t1 t4) w (pk K) fun _ w=>
 DoX prog (mFunc (.func 35) #[] #[t1]) w (pk K) fun t5 w=>
 DoX prog (mCallV t5 #[(.int .i64 32),(.string ⟨#[115,112,97,99,101,32,101,120,99,108,97,109,32,113,117,111,116,101,100,98,108,32,110,117,109,98,101,114,115,105,103,110,32,100,111,108,108,97,114,32,112,101,114,99,101,110,116,32,97,109,112,101,114,115,97,110,100,32,113,117,111,116,101,115,105,110,103,108,101,32,112,97,114,101,110,108,101,102,116,32,112,97,114,101,110,114,105,103,104,116,32,97,115,116,101,114,105,115,107,32,112,108,117,115,32,99,111,109,109,97,32,104,121,112,104,101,110,32,112,101,114,105,111,100,32,115,108,97,115,104,32,122,101,114,111,32,111,110,101,32,116,119,111,32,116,104,114,101,101,32,102,111,117,114,32,102,105,118,101,32,115,105,120,32,115,101,118,101,110,32,101,105,103,104,116,32,110,105,110,101,32,99,111,108,111,110,32,115,101,109,105,99,111,108,111,110,32,108,101,115,115,32,101,113,117,97,108,32,103,114,101,97,116,101,114,32,113,117,101,115,116,105,111,110,32,97,116]⟩)]) w (pk K) fun t7 w=>
 LoopX [(.int .i64 0)] w (fun vs1 w N1=>∀_:Sg,S_font_Usual_0 t1 t5 (vs1.getD 0 undef) w N1 K)
theorem S_font_Usual_eq (w:World)(K:Ending→World→Prop):wpX prog 35 [] [(5,[8])] none (bodyOf Tryz.f19) (topQ prog [.tmp 0] K) (startX []) [] w=S_font_Usual w K:=by kernel_rfl
theorem S_font_Usual_ok {w:World}{K:Ending→World→Prop}(h:S_font_Usual w K):Calls prog 19 #[] w K:=
 calls_of_wpX Tryz.func19 rfl rfl rfl rfl (Eq.mpr (S_font_Usual_eq w K) h)
def S_font_Usual_1_0 (t0 t2 t8 t9 t10:Value)(w:World)(N1:List Value→World→Prop)(K:Ending→World→Prop):Prop:=
 DoX prog (mBin .lss 3 t10 t9) w (pk K) fun t11 w=>
 IfX t11 (DoX prog (mIA 23 t8 t10) w (pk K) fun t13 w=>
 DoX prog (mLoad 9 t13) w (pk K) fun t14 w=>
 DoX prog (mLoad 23 t2) w (pk K) fun t15 w=>
 DoX prog (mBin .add 3 t0 t10) w (pk K) fun t18 w=>
 DoX prog (mIA 23 t15 t18) w (pk K) fun t20 w=>
 DoX prog (mStore 9 t20 t14) w (pk K) fun _ w=>
 DoX prog (mBin .add 3 t10 (.int .i64 1)) w (pk K) fun t21 w=>
 N1 [t21] w) (K (.returned (.tuple #[])) w)
def S_font_Usual_1 (t0 t1 t2:Value)(w:World)(K:Ending→World→Prop):Prop:=
 CallX prog 36 #[t1] w (pk K) fun t8 w=>
 DoX prog (mB .len #[23] 3 #[false] #[t8]) w (pk K) fun t9 w=>
 LoopX [(.int .i64 0)] w (fun vs1 w N1=>∀_:Sg,S_font_Usual_1_0 t0 t2 t8 t9 (vs1.getD 0 undef) w N1 K)
theorem S_font_Usual_1_eq (t0 t1 t2:Value)(w:World)(K:Ending→World→Prop):wpX prog 22 [] [(1,[10])] none (bodyOf Tryz.f35) (topQ prog [] K) (startX [t0,t1,t2]) [] w=S_font_Usual_1 t0 t1 t2 w K:=by kernel_rfl
theorem S_font_Usual_1_ok {t0 t1 t2:Value}{w:World}{K:Ending→World→Prop}(h:S_font_Usual_1 t0 t1 t2 w K):Calls prog 35 #[t0,t1,t2] w K:=
 calls_of_wpX Tryz.func35 rfl rfl rfl rfl (Eq.mpr (S_font_Usual_1_eq t0 t1 t2 w K) h)
def S_font_uni_0 (t3 t5 t20:Value)(w:World)(N1:List Value→World→Prop)(K:Ending→World→Prop):Prop:=
 DoX prog (mBin .lss 3 t20 (.int .i64 4)) w (pk K) fun t21 w=>
 IfX t21 (DoX prog (mIx 9 t3 t20) w (pk K) fun t25 w=>
 CallX prog 55 #[t25] w (pk K) fun t26 w=>
 DoX prog (mBin .lss 3 t26 (.int .i64 0)) w (pk K) fun t28 w=>
 GDo t28 false (fun E=>E t3 w) w fun t30 w=>
 GDo t28 false (fun E=>E t20 w) w fun t31 w=>
 GDo t28 false (fun E=>DoX prog (mIx 9 t30 t31) w (pk K) E) w fun t32 w=>
 GDo t28 false (fun E=>DoX prog (mBin .geq 5 t32 (.int .u8 97)) w (pk K) E) w fun t33 w=>
 DoX prog (mPick t28 (.bool true) t33) w (pk K) fun t34 w=>
 IfX t34 (K (.returned (.string ⟨#[]⟩)) w) (DoX prog (mBin .shl 3 t5 (.int .u64 4)) w (pk K) fun t36 w=>
 DoX prog (mBin .or 3 t36 t26) w (pk K) fun t38 w=>
 DoX prog (mBin .add 3 t20 (.int .i64 1)) w (pk K) fun t39 w=>
 N1 [t38,t39] w)) (DoX prog (mEq .eql 3 (.tmp 40) (.const (.int .i64 0)) t5 (.int .i64 0)) w (pk K) fun t41 w=>
 GDo t41 false (fun E=>E t5 w) w fun t43 w=>
 GDo t41 false (fun E=>DoX prog (mBin .geq 3 t43 (.int .i64 55296)) w (pk K) E) w fun t44 w=>
 GDo t41 false (fun E=>E t44 w) w fun t45 w=>
 GDo t45 true (fun E=>E t5 w) w fun t46 w=>
 GDo t45 true (fun E=>DoX prog (mBin .leq 3 t46 (.int .i64 57343)) w (pk K) E) w fun t47 w=>
 GDo t41 false (fun E=>DoX prog (mPick t45 t47 (.bool false)) w (pk K) E) w fun t48 w=>
 DoX prog (mPick t41 (.bool true) t48) w (pk K) fun t49 w=>
 IfX t49 (K (.returned (.string ⟨#[]⟩)) w) (DoX prog (mConv 3 21 t5) w (pk K) fun t51 w=>
 DoX prog (mBuildS 99 1 #[(0,t51)]) w (pk K) fun t52 w=>
 DoX prog (mConv 99 9 t52) w (pk K) fun t53 w=>
 K (.returned t53) w))
def S_font_uni (t0:Value)(w:World)(K:Ending→World→Prop):Prop:=
 CallX prog 54 #[t0,(.string ⟨#[117,110,105]⟩)] w (pk K) fun t10 w=>
 DoX prog (mExt t10 0) w (pk K) fun t11 w=>
 DoX prog (mExt t10 1) w (pk K) fun t12 w=>
 DoX prog (mUn .not t12) w (pk K) fun t14 w=>
 GDo t14 false (fun E=>E t11 w) w fun t16 w=>
 GDo t14 false (fun E=>DoX prog (mB .len #[9] 3 #[false] #[t16]) w (pk K) E) w fun t17 w=>
 GDo t14 false (fun E=>DoX prog (mEq .neq 3 (.tmp 17) (.const (.int .i64 4)) t17 (.int .i64 4)) w (pk K) E) w fun t18 w=>
 DoX prog (mPick t14 (.bool true) t18) w (pk K) fun t19 w=>
 IfX t19 (K (.returned (.string ⟨#[]⟩)) w) (LoopX [(.int .i64 0),(.int .i64 0)] w (fun vs1 w N1=>∀_:Sg,S_font_uni_0 t11 (vs1.getD 0 undef) (vs1.getD 1 undef) w N1 K))
theorem S_font_uni_eq (t0:Value)(w:World)(K:Ending→World→Prop):wpX prog 54 [] [(6,[5,20])] none (bodyOf Tryz.f28) (topQ prog [.tmp 2] K) (startX [t0]) [] w=S_font_uni t0 w K:=by kernel_rfl
theorem S_font_uni_ok {t0:Value}{w:World}{K:Ending→World→Prop}(h:S_font_uni t0 w K):Calls prog 28 #[t0] w K:=
 calls_of_wpX Tryz.func28 rfl rfl rfl rfl (Eq.mpr (S_font_uni_eq t0 w K) h)
def S_font_Sign_0 (t0 t7 t8 t9:Value)(w:World)(N1:List Value→World→Prop)(K:Ending→World→Prop):Prop:=
 DoX prog (mBin .lss 3 t9 t8) w (pk K) fun t10 w=>
 IfX t10 (DoX prog (mIA 23 t7 t9) w (pk K) fun t12 w=>
 DoX prog (mLoad 9 t12) w (pk K) fun t13 w=>
 DoX prog (mEq .eql 9 (.tmp 14) (.tmp 15) t13 t0) w (pk K) fun t16 w=>
 IfX t16 (DoX prog (mConv 3 5 t9) w (pk K) fun t18 w=>
 DoX prog (mBuildS 41 1 #[(0,t18)]) w (pk K) fun t19 w=>
 DoX prog (mConv 41 9 t19) w (pk K) fun t20 w=>
 K (.returned t20) w) (DoX prog (mBin .add 3 t9 (.int .i64 1)) w (pk K) fun t21 w=>
 N1 [t21] w)) (CallX prog 28 #[t0] w (pk K) fun t23 w=>
 K (.returned t23) w)
def S_font_Sign (t0:Value)(w:World)(K:Ending→World→Prop):Prop:=
 DoX prog (mEq .eql 9 (.tmp 5) (.const (.string ⟨#[]⟩)) t0 (.string ⟨#[]⟩)) w (pk K) fun t6 w=>
 IfX t6 (K (.returned (.string ⟨#[]⟩)) w) (CallX prog 19 #[] w (pk K) fun t7 w=>
 DoX prog (mB .len #[23] 3 #[false] #[t7]) w (pk K) fun t8 w=>
 LoopX [(.int .i64 0)] w (fun vs1 w N1=>∀_:Sg,S_font_Sign_0 t0 t7 t8 (vs1.getD 0 undef) w N1 K))
theorem S_font_Sign_eq (t0:Value)(w:World)(K:Ending→World→Prop):wpX prog 24 [] [(4,[9])] none (bodyOf Tryz.f14) (topQ prog [.tmp 2] K) (startX [t0]) [] w=S_font_Sign t0 w K:=by kernel_rfl
theorem S_font_Sign_ok {t0:Value}{w:World}{K:Ending→World→Prop}(h:S_font_Sign t0 w K):Calls prog 14 #[t0] w K:=
 calls_of_wpX Tryz.func14 rfl rfl rfl rfl (Eq.mpr (S_font_Sign_eq t0 w K) h)
def S_font_bounded_int64 (t0 t1:Value)(w:World)(K:Ending→World→Prop):Prop:=
 DoX prog (mBin .geq 2 t0 (.int .i64 0)) w (pk K) fun t6 w=>
 GDo t6 true (fun E=>E t0 w) w fun t8 w=>
 GDo t6 true (fun E=>E t1 w) w fun t9 w=>
 GDo t6 true (fun E=>DoX prog (mBin .leq 2 t8 t9) w (pk K) E) w fun t10 w=>
 DoX prog (mPick t6 t10 (.bool false)) w (pk K) fun t11 w=>
 K (.returned t11) w
theorem S_font_bounded_int64_eq (t0 t1:Value)(w:World)(K:Ending→World→Prop):wpX prog 12 [] [] none (bodyOf Tryz.f58) (topQ prog [.tmp 4] K) (startX [t0,t1]) [] w=S_font_bounded_int64 t0 t1 w K:=by kernel_rfl
theorem S_font_bounded_int64_ok {t0 t1:Value}{w:World}{K:Ending→World→Prop}(h:S_font_bounded_int64 t0 t1 w K):Calls prog 58 #[t0,t1] w K:=
 calls_of_wpX Tryz.func58 rfl rfl rfl rfl (Eq.mpr (S_font_bounded_int64_eq t0 t1 w K) h)
def S_font_named (t0 t1:Value)(w:World)(K:Ending→World→Prop):Prop:=
 DoX prog (mB .len #[9] 3 #[false] #[t0]) w (pk K) fun t6 w=>
 DoX prog (mBin .geq 3 t6 t1) w (pk K) fun t8 w=>
 GDo t8 true (fun E=>E t0 w) w fun t10 w=>
 GDo t8 true (fun E=>DoX prog (mB .len #[9] 3 #[false] #[t10]) w (pk K) E) w fun t11 w=>
 GDo t8 true (fun E=>DoX prog (mBin .leq 3 t11 (.int .i64 127)) w (pk K) E) w fun t12 w=>
 DoX prog (mPick t8 t12 (.bool false)) w (pk K) fun t13 w=>
 GDo t13 true (fun E=>E t0 w) w fun t15 w=>
 GDo t13 true (fun E=>CallX prog 91 #[t15,(.int .u8 0)] w (pk K) E) w fun t16 w=>
 GDo t13 true (fun E=>DoX prog (mBin .lss 3 t16 (.int .i64 0)) w (pk K) E) w fun t17 w=>
 DoX prog (mPick t13 t17 (.bool false)) w (pk K) fun t18 w=>
 K (.returned t18) w
theorem S_font_named_eq (t0 t1:Value)(w:World)(K:Ending→World→Prop):wpX prog 19 [] [] none (bodyOf Tryz.f56) (topQ prog [.tmp 4] K) (startX [t0,t1]) [] w=S_font_named t0 t1 w K:=by kernel_rfl
theorem S_font_named_ok {t0 t1:Value}{w:World}{K:Ending→World→Prop}(h:S_font_named t0 t1 w K):Calls prog 56 #[t0,t1] w K:=
 calls_of_wpX Tryz.func56 rfl rfl rfl rfl (Eq.mpr (S_font_named_eq t0 t1 w K) h)
def S_font_codes (t0:Value)(w:World)(K:Ending→World→Prop):Prop:=
 IfX t0 (K (.returned (.int .i64 65536)) w) (K (.returned (.int .i64 256)) w)
theorem S_font_codes_eq (t0:Value)(w:World)(K:Ending→World→Prop):wpX prog 4 [] [] none (bodyOf Tryz.f57) (topQ prog [.tmp 2] K) (startX [t0]) [] w=S_font_codes t0 w K:=by kernel_rfl
theorem S_font_codes_ok {t0:Value}{w:World}{K:Ending→World→Prop}(h:S_font_codes t0 w K):Calls prog 57 #[t0] w K:=
 calls_of_wpX Tryz.func57 rfl rfl rfl rfl (Eq.mpr (S_font_codes_eq t0 w K) h)
def S_font_may_1 (t66 t67 t68:Value)(w:World)(N3:List Value→World→Prop)(K:Ending→World→Prop):Prop:=
 DoX prog (mBin .lss 3 t68 t67) w (pk K) fun t69 w=>
 IfX t69 (DoX prog (mIA 23 t66 t68) w (pk K) fun t70 w=>
 DoX prog (mLoad 9 t70) w (pk K) fun t71 w=>
 CallX prog 56 #[t71,(.int .i64 0)] w (pk K) fun t73 w=>
 DoX prog (mUn .not t73) w (pk K) fun t74 w=>
 IfX t74 (K (.returned (.bool false)) w) (DoX prog (mBin .add 3 t68 (.int .i64 1)) w (pk K) fun t75 w=>
 N3 [t75] w)) (K (.returned (.bool true)) w)
def S_font_may_0 (t1 t41 t42 t43:Value)(w:World)(N2:List Value→World→Prop)(K:Ending→World→Prop):Prop:=
 DoX prog (mBin .lss 3 t43 t42) w (pk K) fun t44 w=>
 IfX t44 (DoX prog (mIA 22 t41 t43) w (pk K) fun t45 w=>
 DoX prog (mLoad 2 t45) w (pk K) fun t46 w=>
 CallX prog 58 #[t46,(.int .i64 100000)] w (pk K) fun t48 w=>
 DoX prog (mUn .not t48) w (pk K) fun t49 w=>
 IfX t49 (K (.returned (.bool false)) w) (DoX prog (mBin .add 3 t43 (.int .i64 1)) w (pk K) fun t50 w=>
 N2 [t50] w)) (DoX prog (mFA 26 t1 5) w (pk K) fun t51 w=>
 DoX prog (mLoad 23 t51) w (pk K) fun t52 w=>
 DoX prog (mB .len #[23] 3 #[false] #[t52]) w (pk K) fun t53 w=>
 DoX prog (mEq .neq 3 (.tmp 53) (.const (.int .i64 0)) t53 (.int .i64 0)) w (pk K) fun t54 w=>
 GDo t54 true (fun E=>DoX prog (mFA 26 t1 1) w (pk K) E) w fun t56 w=>
 GDo t54 true (fun E=>DoX prog (mLoad 4 t56) w (pk K) E) w fun t57 w=>
 GDo t54 true (fun E=>E t57 w) w fun t58 w=>
 GDo t58 false (fun E=>DoX prog (mFA 26 t1 5) w (pk K) E) w fun t59 w=>
 GDo t58 false (fun E=>DoX prog (mLoad 23 t59) w (pk K) E) w fun t60 w=>
 GDo t58 false (fun E=>DoX prog (mB .len #[23] 3 #[false] #[t60]) w (pk K) E) w fun t61 w=>
 GDo t58 false (fun E=>DoX prog (mEq .neq 3 (.tmp 61) (.const (.int .i64 256)) t61 (.int .i64 256)) w (pk K) E) w fun t62 w=>
 GDo t54 true (fun E=>DoX prog (mPick t58 (.bool true) t62) w (pk K) E) w fun t63 w=>
 DoX prog (mPick t54 t63 (.bool false)) w (pk K) fun t64 w=>
 IfX t64 (K (.returned (.bool false)) w) (DoX prog (mFA 26 t1 5) w (pk K) fun t65 w=>
 DoX prog (mLoad 23 t65) w (pk K) fun t66 w=>
 DoX prog (mB .len #[23] 3 #[false] #[t66]) w (pk K) fun t67 w=>
 LoopX [(.int .i64 0)] w (fun vs3 w N3=>∀_:Sg,S_font_may_1 t66 t67 (vs3.getD 0 undef) w N3 K)))
def S_font_may (t0:Value)(w:World)(K:Ending→World→Prop):Prop:=
 DoX prog (mBox 26 t0) w (pk K) fun t1 w=>
 DoX prog (mFA 26 t1 3) w (pk K) fun t8 w=>
 DoX prog (mLoad 22 t8) w (pk K) fun t9 w=>
 DoX prog (mB .len #[22] 3 #[false] #[t9]) w (pk K) fun t10 w=>
 QuietX w (fun C1=>
 QDo prog C1 (mFA 26 t1 0) fun t11=>
 QDo prog C1 (mLoad 9 t11) fun t12=>
 QCall prog C1 56 #[t12,(.int .i64 1)] fun t13=>
 QDo prog C1 (mUn .not t13) fun t14=>
 GQ t14 false (fun E=>QDo prog C1 (mFA 26 t1 2) E) fun t16=>
 GQ t14 false (fun E=>QDo prog C1 (mLoad 3 t16) E) fun t17=>
 GQ t14 false (fun E=>QDo prog C1 (mBin .lss 3 t17 (.int .i64 0)) E) fun t18=>
 QDo prog C1 (mPick t14 (.bool true) t18) fun t19=>
 GQ t19 false (fun E=>E t10) fun t21=>
 GQ t19 false (fun E=>QDo prog C1 (mBin .gtr 3 t21 (.int .i64 4096)) E) fun t22=>
 QDo prog C1 (mPick t19 (.bool true) t22) fun t23=>
 GQ t23 false (fun E=>QDo prog C1 (mFA 26 t1 2) E) fun t25=>
 GQ t23 false (fun E=>QDo prog C1 (mLoad 3 t25) E) fun t26=>
 GQ t23 false (fun E=>QDo prog C1 (mFA 26 t1 1) E) fun t27=>
 GQ t23 false (fun E=>QDo prog C1 (mLoad 4 t27) E) fun t28=>
 GQ t23 false (fun E=>QCall prog C1 57 #[t28] E) fun t29=>
 GQ t23 false (fun E=>E t10) fun t30=>
 GQ t23 false (fun E=>QDo prog C1 (mBin .sub 3 t29 t30) E) fun t31=>
 GQ t23 false (fun E=>QDo prog C1 (mBin .gtr 3 t26 t31) E) fun t32=>
 QDo prog C1 (mPick t23 (.bool true) t32) fun t33=>
 GQ t33 false (fun E=>QDo prog C1 (mFA 26 t1 4) E) fun t35=>
 GQ t33 false (fun E=>QDo prog C1 (mLoad 2 t35) E) fun t36=>
 GQ t33 false (fun E=>QCall prog C1 58 #[t36,(.int .i64 100000)] E) fun t37=>
 GQ t33 false (fun E=>QDo prog C1 (mUn .not t37) E) fun t38=>
 QDo prog C1 (mPick t33 (.bool true) t38) fun t39=>
 ∀w,C1 w →
 IfX t39 (K (.returned (.bool false)) w) (DoX prog (mFA 26 t1 3) w (pk K) fun t40 w=>
 DoX prog (mLoad 22 t40) w (pk K) fun t41 w=>
 DoX prog (mB .len #[22] 3 #[false] #[t41]) w (pk K) fun t42 w=>
 LoopX [(.int .i64 0)] w (fun vs2 w N2=>∀_:Sg,S_font_may_0 t1 t41 t42 (vs2.getD 0 undef) w N2 K)))
theorem S_font_may_eq (t0:Value)(w:World)(K:Ending→World→Prop):wpX prog 76 [] [(5,[43]),(13,[68])] none (bodyOf Tryz.f30) (topQ prog [.tmp 2] K) (startX [t0]) [] w=S_font_may t0 w K:=by kernel_rfl
theorem S_font_may_ok {t0:Value}{w:World}{K:Ending→World→Prop}(h:S_font_may t0 w K):Calls prog 30 #[t0] w K:=
 calls_of_wpX Tryz.func30 rfl rfl rfl rfl (Eq.mpr (S_font_may_eq t0 w K) h)
def S_font_Check (t0:Value)(w:World)(K:Ending→World→Prop):Prop:=
 DoX prog (mBox 26 t0) w (pk K) fun t1 w=>
 DoX prog (mLoad 26 t1) w (pk K) fun t3 w=>
 CallX prog 30 #[t3] w (pk K) fun t4 w=>
 DoX prog (mUn .not t4) w (pk K) fun t5 w=>
 IfX t5 (K (.returned (.int .i64 1)) w) (DoX prog (mFA 26 t1 6) w (pk K) fun t6 w=>
 DoX prog (mLoad 24 t6) w (pk K) fun t7 w=>
 DoX prog (mFA 26 t1 1) w (pk K) fun t8 w=>
 DoX prog (mLoad 4 t8) w (pk K) fun t9 w=>
 CallX prog 31 #[t7,t9] w (pk K) fun t10 w=>
 K (.returned t10) w)
theorem S_font_Check_eq (t0:Value)(w:World)(K:Ending→World→Prop):wpX prog 11 [] [] none (bodyOf Tryz.f16) (topQ prog [.tmp 2] K) (startX [t0]) [] w=S_font_Check t0 w K:=by kernel_rfl
theorem S_font_Check_ok {t0:Value}{w:World}{K:Ending→World→Prop}(h:S_font_Check t0 w K):Calls prog 16 #[t0] w K:=
 calls_of_wpX Tryz.func16 rfl rfl rfl rfl (Eq.mpr (S_font_Check_eq t0 w K) h)
def S_font_Width (t0 t1:Value)(w:World)(K:Ending→World→Prop):Prop:=
 DoX prog (mBox 26 t0) w (pk K) fun t2 w=>
 DoX prog (mFA 26 t2 2) w (pk K) fun t6 w=>
 DoX prog (mLoad 3 t6) w (pk K) fun t7 w=>
 DoX prog (mBin .lss 3 t1 t7) w (pk K) fun t8 w=>
 GDo t8 false (fun E=>E t1 w) w fun t10 w=>
 GDo t8 false (fun E=>DoX prog (mFA 26 t2 2) w (pk K) E) w fun t11 w=>
 GDo t8 false (fun E=>DoX prog (mLoad 3 t11) w (pk K) E) w fun t12 w=>
 GDo t8 false (fun E=>DoX prog (mBin .sub 3 t10 t12) w (pk K) E) w fun t13 w=>
 GDo t8 false (fun E=>DoX prog (mFA 26 t2 3) w (pk K) E) w fun t14 w=>
 GDo t8 false (fun E=>DoX prog (mLoad 22 t14) w (pk K) E) w fun t15 w=>
 GDo t8 false (fun E=>DoX prog (mB .len #[22] 3 #[false] #[t15]) w (pk K) E) w fun t16 w=>
 GDo t8 false (fun E=>DoX prog (mBin .geq 3 t13 t16) w (pk K) E) w fun t17 w=>
 DoX prog (mPick t8 (.bool true) t17) w (pk K) fun t18 w=>
 GDo t18 false (fun E=>E t1 w) w fun t20 w=>
 GDo t18 false (fun E=>DoX prog (mFA 26 t2 2) w (pk K) E) w fun t21 w=>
 GDo t18 false (fun E=>DoX prog (mLoad 3 t21) w (pk K) E) w fun t22 w=>
 GDo t18 false (fun E=>DoX prog (mBin .sub 3 t20 t22) w (pk K) E) w fun t23 w=>
 GDo t18 false (fun E=>DoX prog (mBin .lss 3 t23 (.int .i64 0)) w (pk K) E) w fun t24 w=>
 DoX prog (mPick t18 (.bool true) t24) w (pk K) fun t25 w=>
 IfX t25 (DoX prog (mFA 26 t2 4) w (pk K) fun t26 w=>
 DoX prog (mLoad 2 t26) w (pk K) fun t27 w=>
 K (.returned t27) w) (DoX prog (mFA 26 t2 3) w (pk K) fun t28 w=>
 DoX prog (mLoad 22 t28) w (pk K) fun t29 w=>
 DoX prog (mFA 26 t2 2) w (pk K) fun t31 w=>
 DoX prog (mLoad 3 t31) w (pk K) fun t32 w=>
 DoX prog (mBin .sub 3 t1 t32) w (pk K) fun t33 w=>
 DoX prog (mIA 22 t29 t33) w (pk K) fun t34 w=>
 DoX prog (mLoad 2 t34) w (pk K) fun t35 w=>
 K (.returned t35) w)
theorem S_font_Width_eq (t0 t1:Value)(w:World)(K:Ending→World→Prop):wpX prog 36 [] [] none (bodyOf Tryz.f10) (topQ prog [.tmp 4] K) (startX [t0,t1]) [] w=S_font_Width t0 t1 w K:=by kernel_rfl
theorem S_font_Width_ok {t0 t1:Value}{w:World}{K:Ending→World→Prop}(h:S_font_Width t0 t1 w K):Calls prog 10 #[t0,t1] w K:=
 calls_of_wpX Tryz.func10 rfl rfl rfl rfl (Eq.mpr (S_font_Width_eq t0 t1 w K) h)
def S_font_Codes_1 (t1 t6 t8:Value)(w:World)(N2:List Value→World→Prop)(K:Ending→World→Prop):Prop:=
 DoX prog (mB .len #[9] 3 #[false] #[t1]) w (pk K) fun t32 w=>
 DoX prog (mBin .lss 3 t8 t32) w (pk K) fun t33 w=>
 IfX t33 (QuietX w (fun C3=>
 QDo prog C3 (mIx 9 t1 t8) fun t39=>
 QDo prog C3 (mConv 5 3 t39) fun t40=>
 QDo prog C3 (mBin .shl 3 t40 (.int .u64 8)) fun t41=>
 QDo prog C3 (mBin .add 3 t8 (.int .i64 1)) fun t44=>
 QDo prog C3 (mIx 9 t1 t44) fun t45=>
 QDo prog C3 (mConv 5 3 t45) fun t46=>
 QDo prog C3 (mBin .or 3 t41 t46) fun t47=>
 ∀w,C3 w →
 DoX prog (mBuildS 29 1 #[(0,t47)]) w (pm1 (pm1 (pm1 (pm1 (pm1 (pk K)))))) fun t48 w=>
 DoX prog (mB .append #[29,29] 29 #[false,false] #[t6,t48]) w (pm1 (pm1 (pm1 (pm1 (pm1 (pk K)))))) fun t49 w=>
 DoX prog (mBin .add 3 t8 (.int .i64 2)) w (pk K) fun t35 w=>
 N2 [t49,t35] w)) (K (.returned (.tuple #[t6,(.int .i64 0)])) w)
def S_font_Codes_0 (t1 t6 t13 t14:Value)(w:World)(N1:List Value→World→Prop)(K:Ending→World→Prop):Prop:=
 DoX prog (mBin .lss 3 t14 t13) w (pk K) fun t15 w=>
 IfX t15 (DoX prog (mIx 9 t1 t14) w (pk K) fun t20 w=>
 DoX prog (mConv 5 3 t20) w (pk K) fun t21 w=>
 DoX prog (mBuildS 29 1 #[(0,t21)]) w (pk K) fun t22 w=>
 DoX prog (mB .append #[29,29] 29 #[false,false] #[t6,t22]) w (pk K) fun t23 w=>
 DoX prog (mBin .add 3 t14 (.int .i64 1)) w (pk K) fun t24 w=>
 N1 [t23,t24] w) (K (.returned (.tuple #[t6,(.int .i64 0)])) w)
def S_font_Codes (t0 t1:Value)(w:World)(K:Ending→World→Prop):Prop:=
 DoX prog (mBox 26 t0) w (pk K) fun t2 w=>
 DoX prog (mFA 26 t2 1) w (pk K) fun t9 w=>
 DoX prog (mLoad 4 t9) w (pk K) fun t10 w=>
 DoX prog (mUn .not t10) w (pk K) fun t11 w=>
 IfX t11 (DoX prog (mB .len #[9] 3 #[false] #[t1]) w (pk K) fun t13 w=>
 LoopX [(.slice none 0 0),(.int .i64 0)] w (fun vs1 w N1=>∀_:Sg,S_font_Codes_0 t1 (vs1.getD 0 undef) t13 (vs1.getD 1 undef) w N1 K)) (DoX prog (mB .len #[9] 3 #[false] #[t1]) w (pk K) fun t27 w=>
 DoX prog (mBin .rem 3 t27 (.int .i64 2)) w (pk K) fun t28 w=>
 DoX prog (mEq .neq 3 (.tmp 28) (.const (.int .i64 0)) t28 (.int .i64 0)) w (pk K) fun t29 w=>
 IfX t29 (K (.returned (.tuple #[(.slice none 0 0),(.int .i64 3)])) w) (LoopX [(.slice none 0 0),(.int .i64 0)] w (fun vs2 w N2=>∀_:Sg,S_font_Codes_1 t1 (vs2.getD 0 undef) (vs2.getD 1 undef) w N2 K)))
theorem S_font_Codes_eq (t0 t1:Value)(w:World)(K:Ending→World→Prop):wpX prog 51 [] [(4,[6,14]),(12,[6,8])] none (bodyOf Tryz.f7) (topQ prog [.tmp 4,.tmp 5] K) (startX [t0,t1]) [] w=S_font_Codes t0 t1 w K:=by kernel_rfl
theorem S_font_Codes_ok {t0 t1:Value}{w:World}{K:Ending→World→Prop}(h:S_font_Codes t0 t1 w K):Calls prog 7 #[t0,t1] w K:=
 calls_of_wpX Tryz.func7 rfl rfl rfl rfl (Eq.mpr (S_font_Codes_eq t0 t1 w K) h)
def S_font_Say_0 (t1 t2 t7:Value)(w:World)(K:Ending→World→Prop):Prop:=
 DoX prog (mFA 26 t2 1) w (pk K) fun t23 w=>
 DoX prog (mLoad 4 t23) w (pk K) fun t24 w=>
 GDo t24 false (fun E=>E t1 w) w fun t26 w=>
 GDo t24 false (fun E=>DoX prog (mBin .lss 3 t26 (.int .i64 0)) w (pk K) E) w fun t27 w=>
 DoX prog (mPick t24 (.bool true) t27) w (pk K) fun t28 w=>
 GDo t28 false (fun E=>E t1 w) w fun t30 w=>
 GDo t28 false (fun E=>E t7 w) w fun t31 w=>
 GDo t28 false (fun E=>DoX prog (mB .len #[23] 3 #[false] #[t31]) w (pk K) E) w fun t32 w=>
 GDo t28 false (fun E=>DoX prog (mBin .geq 3 t30 t32) w (pk K) E) w fun t33 w=>
 DoX prog (mPick t28 (.bool true) t33) w (pk K) fun t34 w=>
 IfX t34 (K (.returned (.string ⟨#[]⟩)) w) (DoX prog (mIA 23 t7 t1) w (pk K) fun t37 w=>
 DoX prog (mLoad 9 t37) w (pk K) fun t38 w=>
 CallX prog 14 #[t38] w (pk K) fun t39 w=>
 K (.returned t39) w)
def S_font_Say (t0 t1:Value)(w:World)(K:Ending→World→Prop):Prop:=
 DoX prog (mBox 26 t0) w (pk K) fun t2 w=>
 DoX prog (mFA 26 t2 6) w (pk K) fun t9 w=>
 DoX prog (mLoad 24 t9) w (pk K) fun t10 w=>
 CallX prog 26 #[t10,t1] w (pk K) fun t12 w=>
 DoX prog (mExt t12 0) w (pk K) fun t13 w=>
 DoX prog (mExt t12 1) w (pk K) fun t14 w=>
 IfX t14 (K (.returned t13) w) (DoX prog (mFA 26 t2 5) w (pk K) fun t17 w=>
 DoX prog (mLoad 23 t17) w (pk K) fun t18 w=>
 JoinX (fun J1=>
 DoX prog (mB .len #[23] 3 #[false] #[t18]) w (pk K) fun t20 w=>
 DoX prog (mEq .eql 3 (.tmp 20) (.const (.int .i64 0)) t20 (.int .i64 0)) w (pk K) fun t21 w=>
 IfX t21 (CallX prog 19 #[] w (pk K) fun t22 w=>
 J1 [t22] w) (J1 [t18] w)) (fun vs1 w=>∀_:Sg,S_font_Say_0 t1 t2 (vs1.getD 0 undef) w K))
theorem S_font_Say_eq (t0 t1:Value)(w:World)(K:Ending→World→Prop):wpX prog 40 [(7,[7])] [] none (bodyOf Tryz.f12) (topQ prog [.tmp 4] K) (startX [t0,t1]) [] w=S_font_Say t0 t1 w K:=by kernel_rfl
theorem S_font_Say_ok {t0 t1:Value}{w:World}{K:Ending→World→Prop}(h:S_font_Say t0 t1 w K):Calls prog 12 #[t0,t1] w K:=
 calls_of_wpX Tryz.func12 rfl rfl rfl rfl (Eq.mpr (S_font_Say_eq t0 t1 w K) h)
def S_cmap_Check_1 (t0 t5 t12 t13 t14:Value)(w:World)(N2:List Value→World→Prop)(K:Ending→World→Prop):Prop:=
 DoX prog (mBin .lss 3 t14 t13) w (pk K) fun t15 w=>
 IfX t15 (DoX prog (mIA 24 t12 t14) w (pk K) fun t17 w=>
 DoX prog (mLoad 44 t17) w (pk K) fun t18 w=>
 DoX prog (mAlloc 44) w (pk K) fun t7 w=>
 DoX prog (mStore 44 t7 t18) w (pk K) fun _ w=>
 DoX prog (mFA 44 t7 0) w (pk K) fun t20 w=>
 DoX prog (mLoad 3 t20) w (pk K) fun t21 w=>
 DoX prog (mBin .lss 3 t21 (.int .i64 0)) w (pk K) fun t22 w=>
 GDo t22 false (fun E=>DoX prog (mFA 44 t7 0) w (pk K) E) w fun t24 w=>
 GDo t22 false (fun E=>DoX prog (mLoad 3 t24) w (pk K) E) w fun t25 w=>
 GDo t22 false (fun E=>E t5 w) w fun t26 w=>
 GDo t22 false (fun E=>DoX prog (mBin .gtr 3 t25 t26) w (pk K) E) w fun t27 w=>
 DoX prog (mPick t22 (.bool true) t27) w (pk K) fun t28 w=>
 IfX t28 (K (.returned (.int .i64 2)) w) (DoX prog (mFA 44 t7 1) w (pk K) fun t30 w=>
 DoX prog (mLoad 9 t30) w (pk K) fun t31 w=>
 CallX prog 59 #[t31] w (pk K) fun t32 w=>
 DoX prog (mUn .not t32) w (pk K) fun t33 w=>
 IfX t33 (K (.returned (.int .i64 3)) w) (DoX prog (mFA 44 t7 1) w (pk K) fun t35 w=>
 DoX prog (mLoad 9 t35) w (pk K) fun t36 w=>
 CallX prog 60 #[t36] w (pk K) fun t37 w=>
 DoX prog (mB .len #[9] 3 #[false] #[t37]) w (pk K) fun t38 w=>
 DoX prog (mBin .gtr 3 t38 (.int .i64 512)) w (pk K) fun t39 w=>
 IfX t39 (K (.returned (.int .i64 5)) w) (QuietX w (fun C3=>
 QDo prog C3 (mBin .gtr 3 t14 (.int .i64 0)) fun t42=>
 GQ t42 true (fun E=>QDo prog C3 (mFA 44 t7 0) E) fun t44=>
 GQ t42 true (fun E=>QDo prog C3 (mLoad 3 t44) E) fun t45=>
 GQ t42 true (fun E=>E t0) fun t46=>
 GQ t42 true (fun E=>E t14) fun t47=>
 GQ t42 true (fun E=>QDo prog C3 (mBin .sub 3 t47 (.int .i64 1)) E) fun t48=>
 GQ t42 true (fun E=>QDo prog C3 (mIA 24 t46 t48) E) fun t49=>
 GQ t42 true (fun E=>QDo prog C3 (mFA 44 t49 0) E) fun t50=>
 GQ t42 true (fun E=>QDo prog C3 (mLoad 3 t50) E) fun t51=>
 GQ t42 true (fun E=>QDo prog C3 (mEq .eql 3 (.tmp 45) (.tmp 51) t45 t51) E) fun t52=>
 QDo prog C3 (mPick t42 t52 (.bool false)) fun t53=>
 ∀w,C3 w →
 IfX t53 (K (.returned (.int .i64 9)) w) (QuietX w (fun C4=>
 QDo prog C4 (mBin .gtr 3 t14 (.int .i64 0)) fun t56=>
 GQ t56 true (fun E=>QDo prog C4 (mFA 44 t7 0) E) fun t58=>
 GQ t56 true (fun E=>QDo prog C4 (mLoad 3 t58) E) fun t59=>
 GQ t56 true (fun E=>E t0) fun t60=>
 GQ t56 true (fun E=>E t14) fun t61=>
 GQ t56 true (fun E=>QDo prog C4 (mBin .sub 3 t61 (.int .i64 1)) E) fun t62=>
 GQ t56 true (fun E=>QDo prog C4 (mIA 24 t60 t62) E) fun t63=>
 GQ t56 true (fun E=>QDo prog C4 (mFA 44 t63 0) E) fun t64=>
 GQ t56 true (fun E=>QDo prog C4 (mLoad 3 t64) E) fun t65=>
 GQ t56 true (fun E=>QDo prog C4 (mBin .lss 3 t59 t65) E) fun t66=>
 QDo prog C4 (mPick t56 t66 (.bool false)) fun t67=>
 ∀w,C4 w →
 IfX t67 (K (.returned (.int .i64 1)) w) (DoX prog (mBin .add 3 t14 (.int .i64 1)) w (pk K) fun t68 w=>
 N2 [t68] w)))))))) (K (.returned (.int .i64 0)) w)
def S_cmap_Check_0 (t0 t5:Value)(w:World)(K:Ending→World→Prop):Prop:=
 DoX prog (mB .len #[24] 3 #[false] #[t0]) w (pk K) fun t10 w=>
 DoX prog (mBin .gtr 3 t10 (.int .i64 4096)) w (pk K) fun t11 w=>
 IfX t11 (K (.returned (.int .i64 6)) w) (DoX prog (mB .len #[24] 3 #[false] #[t0]) w (pk K) fun t13 w=>
 LoopX [(.int .i64 0)] w (fun vs2 w N2=>∀_:Sg,S_cmap_Check_1 t0 t5 t0 t13 (vs2.getD 0 undef) w N2 K))
def S_cmap_Check (t0 t1:Value)(w:World)(K:Ending→World→Prop):Prop:=
 JoinX (fun J1=>
 IfX t1 (J1 [(.int .i64 65535)] w) (J1 [(.int .i64 255)] w)) (fun vs1 w=>∀_:Sg,S_cmap_Check_0 t0 (vs1.getD 0 undef) w K)
theorem S_cmap_Check_eq (t0 t1:Value)(w:World)(K:Ending→World→Prop):wpX prog 69 [(4,[5])] [(7,[14])] none (bodyOf Tryz.f31) (topQ prog [.tmp 4] K) (startX [t0,t1]) [] w=S_cmap_Check t0 t1 w K:=by kernel_rfl
theorem S_cmap_Check_ok {t0 t1:Value}{w:World}{K:Ending→World→Prop}(h:S_cmap_Check t0 t1 w K):Calls prog 31 #[t0,t1] w K:=
 calls_of_wpX Tryz.func31 rfl rfl rfl rfl (Eq.mpr (S_cmap_Check_eq t0 t1 w K) h)
def S_cmap_Units_1 (t3 t5:Value)(w:World)(N1:List Value→World→Prop)(K:Ending→World→Prop):Prop:=
 DoX prog (mBin .shr 21 t5 (.int .u64 8)) w (pk K) fun t32 w=>
 DoX prog (mConv 21 5 t32) w (pk K) fun t33 w=>
 DoX prog (mConv 21 5 t5) w (pk K) fun t35 w=>
 DoX prog (mBuildS 41 2 #[(0,t33),(1,t35)]) w (pk K) fun t36 w=>
 DoX prog (mB .append #[41,41] 41 #[false,false] #[t3,t36]) w (pk K) fun t37 w=>
 N1 [t37] w
def S_cmap_Units_0 (t3 t8:Value)(w:World)(N1:List Value→World→Prop)(K:Ending→World→Prop):Prop:=
 DoX prog (mNext t8 true 0) w (pk K) fun t9 w=>
 DoX prog (mExt t9 0) w (pk K) fun t10 w=>
 IfX t10 (DoX prog (mExt t9 2) w (pk K) fun t11 w=>
 JoinX (fun J2=>
 DoX prog (mBin .geq 21 t11 (.int .i32 65536)) w (pk K) fun t13 w=>
 IfX t13 (DoX prog (mBin .sub 21 t11 (.int .i32 65536)) w (pk K) fun t15 w=>
 DoX prog (mBin .shr 21 t15 (.int .u64 10)) w (pk K) fun t16 w=>
 DoX prog (mBin .add 21 (.int .i32 55296) t16) w (pk K) fun t17 w=>
 DoX prog (mBin .shr 21 t17 (.int .u64 8)) w (pk K) fun t20 w=>
 DoX prog (mConv 21 5 t20) w (pk K) fun t21 w=>
 DoX prog (mConv 21 5 t17) w (pk K) fun t23 w=>
 DoX prog (mBuildS 41 2 #[(0,t21),(1,t23)]) w (pk K) fun t24 w=>
 DoX prog (mB .append #[41,41] 41 #[false,false] #[t3,t24]) w (pk K) fun t25 w=>
 DoX prog (mBin .sub 21 t11 (.int .i32 65536)) w (pk K) fun t27 w=>
 DoX prog (mBin .and 21 t27 (.int .i32 1023)) w (pk K) fun t28 w=>
 DoX prog (mBin .add 21 (.int .i32 56320) t28) w (pk K) fun t29 w=>
 J2 [t25,t29] w) (J2 [t3,t11] w)) (fun vs2 w=>∀_:Sg,S_cmap_Units_1 (vs2.getD 0 undef) (vs2.getD 1 undef) w N1 K)) (DoX prog (mConv 41 9 t3) w (pk K) fun t39 w=>
 K (.returned t39) w)
def S_cmap_Units (t0:Value)(w:World)(K:Ending→World→Prop):Prop:=
 DoX prog (mRange 9 t0) w (pk K) fun t8 w=>
 LoopX [(.slice none 0 0)] w (fun vs1 w N1=>∀_:Sg,S_cmap_Units_0 (vs1.getD 0 undef) t8 w N1 K)
theorem S_cmap_Units_eq (t0:Value)(w:World)(K:Ending→World→Prop):wpX prog 40 [(9,[3,5])] [(3,[3])] none (bodyOf Tryz.f60) (topQ prog [.tmp 2] K) (startX [t0]) [] w=S_cmap_Units t0 w K:=by kernel_rfl
theorem S_cmap_Units_ok {t0:Value}{w:World}{K:Ending→World→Prop}(h:S_cmap_Units t0 w K):Calls prog 60 #[t0] w K:=
 calls_of_wpX Tryz.func60 rfl rfl rfl rfl (Eq.mpr (S_cmap_Units_eq t0 w K) h)
def S_cmap_Find (t0 t1:Value)(w:World)(K:Ending→World→Prop):Prop:=
 DoX prog (mBox 3 t1) w (pk K) fun t3 w=>
 DoX prog (mFunc (.func 53) #[] #[t3]) w (pk K) fun t8 w=>
 CallX prog 52 #[t0,t8] w (pk K) fun t9 w=>
 DoX prog (mBin .lss 3 t9 (.int .i64 0)) w (pk K) fun t11 w=>
 IfX t11 (K (.returned (.tuple #[(.string ⟨#[]⟩),(.bool false)])) w) (DoX prog (mIA 24 t0 t9) w (pk K) fun t14 w=>
 DoX prog (mFA 44 t14 1) w (pk K) fun t15 w=>
 DoX prog (mLoad 9 t15) w (pk K) fun t16 w=>
 K (.returned (.tuple #[t16,(.bool true)])) w)
theorem S_cmap_Find_eq (t0 t1:Value)(w:World)(K:Ending→World→Prop):wpX prog 17 [] [] none (bodyOf Tryz.f26) (topQ prog [.tmp 4,.tmp 5] K) (startX [t0,t1]) [] w=S_cmap_Find t0 t1 w K:=by kernel_rfl
theorem S_cmap_Find_ok {t0 t1:Value}{w:World}{K:Ending→World→Prop}(h:S_cmap_Find t0 t1 w K):Calls prog 26 #[t0,t1] w K:=
 calls_of_wpX Tryz.func26 rfl rfl rfl rfl (Eq.mpr (S_cmap_Find_eq t0 t1 w K) h)
def S_cmap_Find_1 (t0 t1:Value)(w:World)(K:Ending→World→Prop):Prop:=
 DoX prog (mBox 44 t0) w (pk K) fun t2 w=>
 DoX prog (mFA 44 t2 0) w (pk K) fun t4 w=>
 DoX prog (mLoad 3 t4) w (pk K) fun t5 w=>
 DoX prog (mLoad 3 t1) w (pk K) fun t6 w=>
 DoX prog (mEq .eql 3 (.tmp 5) (.tmp 6) t5 t6) w (pk K) fun t7 w=>
 K (.returned t7) w
theorem S_cmap_Find_1_eq (t0 t1:Value)(w:World)(K:Ending→World→Prop):wpX prog 8 [] [] none (bodyOf Tryz.f53) (topQ prog [.tmp 3] K) (startX [t0,t1]) [] w=S_cmap_Find_1 t0 t1 w K:=by kernel_rfl
theorem S_cmap_Find_1_ok {t0 t1:Value}{w:World}{K:Ending→World→Prop}(h:S_cmap_Find_1 t0 t1 w K):Calls prog 53 #[t0,t1] w K:=
 calls_of_wpX Tryz.func53 rfl rfl rfl rfl (Eq.mpr (S_cmap_Find_1_eq t0 t1 w K) h)
end
section
open Eng
def S_foliantref47_Usual_3 (t1 t7 t8:Value)(w:World)(N4:List Value→World→Prop)(K:Ending→World→Prop):Prop:=
 DoX prog (mBin .lss 3 t8 (.int .i64 4)) w (pk K) fun t56 w=>
 IfX t56 (DoX prog (mBin .add 3 (.int .i64 123) t8) w (pk K) fun t61 w=>
 DoX prog (mIA 70 t7 t8) w (pk K) fun t63 w=>
 DoX prog (mLoad 9 t63) w (pk K) fun t64 w=>
 DoX prog (mIA 23 t1 t61) w (pk K) fun t65 w=>
 DoX prog (mStore 9 t65 t64) w (pk K) fun _ w=>
 DoX prog (mBin .add 3 t8 (.int .i64 1)) w (pk K) fun t58 w=>
 N4 [t58] w) (K (.returned t1) w)
def S_foliantref47_Usual_2 (t1 t5 t6:Value)(w:World)(N3:List Value→World→Prop)(K:Ending→World→Prop):Prop:=
 DoX prog (mBin .lss 3 t6 (.int .i64 6)) w (pk K) fun t44 w=>
 IfX t44 (DoX prog (mBin .add 3 (.int .i64 91) t6) w (pk K) fun t49 w=>
 DoX prog (mIA 69 t5 t6) w (pk K) fun t51 w=>
 DoX prog (mLoad 9 t51) w (pk K) fun t52 w=>
 DoX prog (mIA 23 t1 t49) w (pk K) fun t53 w=>
 DoX prog (mStore 9 t53 t52) w (pk K) fun _ w=>
 DoX prog (mBin .add 3 t6 (.int .i64 1)) w (pk K) fun t46 w=>
 N3 [t46] w) (DoX prog (mBuild 70 #[(0,(.string ⟨#[98,114,97,99,101,108,101,102,116]⟩)),(1,(.string ⟨#[98,97,114]⟩)),(2,(.string ⟨#[98,114,97,99,101,114,105,103,104,116]⟩)),(3,(.string ⟨#[97,115,99,105,105,116,105,108,100,101]⟩))]) w (pk K) fun t54 w=>
 DoX prog (mAlloc 70) w (pk K) fun t7 w=>
 DoX prog (mStore 70 t7 t54) w (pk K) fun _ w=>
 LoopX [(.int .i64 0)] w (fun vs4 w N4=>∀_:Sg,S_foliantref47_Usual_3 t1 t7 (vs4.getD 0 undef) w N4 K))
def S_foliantref47_Usual_1 (t1 t4:Value)(w:World)(N2:List Value→World→Prop)(K:Ending→World→Prop):Prop:=
 DoX prog (mBin .leq 21 t4 (.int .i32 90)) w (pk K) fun t23 w=>
 IfX t23 (DoX prog (mConv 21 5 t4) w (pk K) fun t29 w=>
 DoX prog (mBuildS 41 1 #[(0,t29)]) w (pk K) fun t30 w=>
 DoX prog (mConv 41 9 t30) w (pk K) fun t31 w=>
 DoX prog (mIA 23 t1 t4) w (pk K) fun t32 w=>
 DoX prog (mStore 9 t32 t31) w (pk K) fun _ w=>
 DoX prog (mBin .add 21 t4 (.int .i32 32)) w (pk K) fun t35 w=>
 DoX prog (mBin .add 21 t4 (.int .i32 32)) w (pk K) fun t37 w=>
 DoX prog (mConv 21 5 t37) w (pk K) fun t38 w=>
 DoX prog (mBuildS 41 1 #[(0,t38)]) w (pk K) fun t39 w=>
 DoX prog (mConv 41 9 t39) w (pk K) fun t40 w=>
 DoX prog (mIA 23 t1 t35) w (pk K) fun t41 w=>
 DoX prog (mStore 9 t41 t40) w (pk K) fun _ w=>
 DoX prog (mBin .add 21 t4 (.int .i32 1)) w (pk K) fun t25 w=>
 N2 [t25] w) (DoX prog (mBuild 69 #[(0,(.string ⟨#[98,114,97,99,107,101,116,108,101,102,116]⟩)),(1,(.string ⟨#[98,97,99,107,115,108,97,115,104]⟩)),(2,(.string ⟨#[98,114,97,99,107,101,116,114,105,103,104,116]⟩)),(3,(.string ⟨#[97,115,99,105,105,99,105,114,99,117,109]⟩)),(4,(.string ⟨#[117,110,100,101,114,115,99,111,114,101]⟩)),(5,(.string ⟨#[103,114,97,118,101]⟩))]) w (pk K) fun t42 w=>
 DoX prog (mAlloc 69) w (pk K) fun t5 w=>
 DoX prog (mStore 69 t5 t42) w (pk K) fun _ w=>
 LoopX [(.int .i64 0)] w (fun vs3 w N3=>∀_:Sg,S_foliantref47_Usual_2 t1 t5 (vs3.getD 0 undef) w N3 K))
def S_foliantref47_Usual_0 (t1 t2 t3:Value)(w:World)(N1:List Value→World→Prop)(K:Ending→World→Prop):Prop:=
 DoX prog (mBin .lss 3 t3 (.int .i64 33)) w (pk K) fun t12 w=>
 IfX t12 (DoX prog (mBin .add 3 (.int .i64 32) t3) w (pk K) fun t17 w=>
 DoX prog (mIA 68 t2 t3) w (pk K) fun t19 w=>
 DoX prog (mLoad 9 t19) w (pk K) fun t20 w=>
 DoX prog (mIA 23 t1 t17) w (pk K) fun t21 w=>
 DoX prog (mStore 9 t21 t20) w (pk K) fun _ w=>
 DoX prog (mBin .add 3 t3 (.int .i64 1)) w (pk K) fun t14 w=>
 N1 [t14] w) (LoopX [(.int .i32 65)] w (fun vs2 w N2=>∀_:Sg,S_foliantref47_Usual_1 t1 (vs2.getD 0 undef) w N2 K))
def S_foliantref47_Usual (w:World)(K:Ending→World→Prop):Prop:=
 DoX prog (mMake 23 (.int .i64 256) (.int .i64 256)) w (pk K) fun t9 w=>
 DoX prog (mBuild 68 #[(0,(.string ⟨#[115,112,97,99,101]⟩)),(1,(.string ⟨#[101,120,99,108,97,109]⟩)),(2,(.string ⟨#[113,117,111,116,101,100,98,108]⟩)),(3,(.string ⟨#[110,117,109,98,101,114,115,105,103,110]⟩)),(4,(.string ⟨#[100,111,108,108,97,114]⟩)),(5,(.string ⟨#[112,101,114,99,101,110,116]⟩)),(6,(.string ⟨#[97,109,112,101,114,115,97,110,100]⟩)),(7,(.string ⟨#[113,117,111,116,101,115,105,110,103,108,101]⟩)),(8,(.string ⟨#[112,97,114,101,110,108,101,102,116]⟩)),(9,(.string ⟨#[112,97,114,101,110,114,105,103,104,116]⟩)),(10,(.string ⟨#[97,115,116,101,114,105,115,107]⟩)),(11,(.string ⟨#[112,108,117,115]⟩)),(12,(.string ⟨#[99,111,109,109,97]⟩)),(13,(.string ⟨#[104,121,112,104,101,110]⟩)),(14,(.string ⟨#[112,101,114,105,111,100]⟩)),(15,(.string ⟨#[115,108,97,115,104]⟩)),(16,(.string ⟨#[122,101,114,111]⟩)),(17,(.string ⟨#[111,110,101]⟩)),(18,(.string ⟨#[116,119,111]⟩)),(19,(.string ⟨#[116,104,114,101,101]⟩)),(20,(.string ⟨#[102,111,117,114]⟩)),(21,(.string ⟨#[102,105,118,101]⟩)),(22,(.string ⟨#[115,105,120]⟩)),(23,(.string ⟨#[115,101,118,101,110]⟩)),(24,(.string ⟨#[101,105,103,104,116]⟩)),(25,(.string ⟨#[110,105,110,101]⟩)),(26,(.string ⟨#[99,111,108,111,110]⟩)),(27,(.string ⟨#[115,101,109,105,99,111,108,111,110]⟩)),(28,(.string ⟨#[108,101,115,115]⟩)),(29,(.string ⟨#[101,113,117,97,108]⟩)),(30,(.string ⟨#[103,114,101,97,116,101,114]⟩)),(31,(.string ⟨#[113,117,101,115,116,105,111,110]⟩)),(32,(.string ⟨#[97,116]⟩))]) w (pk K) fun t10 w=>
 DoX prog (mAlloc 68) w (pk K) fun t2 w=>
 DoX prog (mStore 68 t2 t10) w (pk K) fun _ w=>
 LoopX [(.int .i64 0)] w (fun vs1 w N1=>∀_:Sg,S_foliantref47_Usual_0 t9 t2 (vs1.getD 0 undef) w N1 K)
theorem S_foliantref47_Usual_eq (w:World)(K:Ending→World→Prop):wpX prog 67 [] [(4,[3]),(8,[4]),(14,[6]),(19,[8])] none (bodyOf Tryz.f20) (topQ prog [.tmp 0] K) (startX []) [] w=S_foliantref47_Usual w K:=by kernel_rfl
theorem S_foliantref47_Usual_ok {w:World}{K:Ending→World→Prop}(h:S_foliantref47_Usual w K):Calls prog 20 #[] w K:=
 calls_of_wpX Tryz.func20 rfl rfl rfl rfl (Eq.mpr (S_foliantref47_Usual_eq w K) h)
def S_foliantref47_digit (t0:Value)(w:World)(K:Ending→World→Prop):Prop:=
 DoX prog (mBin .geq 5 t0 (.int .u8 48)) w (pk K) fun t4 w=>
 GDo t4 true (fun E=>E t0 w) w fun t6 w=>
 GDo t4 true (fun E=>DoX prog (mBin .leq 5 t6 (.int .u8 57)) w (pk K) E) w fun t7 w=>
 DoX prog (mPick t4 t7 (.bool false)) w (pk K) fun t8 w=>
 IfX t8 (DoX prog (mConv 5 3 t0) w (pk K) fun t10 w=>
 DoX prog (mBin .sub 3 t10 (.int .i64 48)) w (pk K) fun t11 w=>
 K (.returned t11) w) (DoX prog (mBin .geq 5 t0 (.int .u8 65)) w (pk K) fun t13 w=>
 GDo t13 true (fun E=>E t0 w) w fun t15 w=>
 GDo t13 true (fun E=>DoX prog (mBin .leq 5 t15 (.int .u8 70)) w (pk K) E) w fun t16 w=>
 DoX prog (mPick t13 t16 (.bool false)) w (pk K) fun t17 w=>
 IfX t17 (DoX prog (mConv 5 3 t0) w (pk K) fun t19 w=>
 DoX prog (mBin .sub 3 t19 (.int .i64 65)) w (pk K) fun t20 w=>
 DoX prog (mBin .add 3 t20 (.int .i64 10)) w (pk K) fun t21 w=>
 K (.returned t21) w) (K (.returned (.int .i64 (-1))) w))
theorem S_foliantref47_digit_eq (t0:Value)(w:World)(K:Ending→World→Prop):wpX prog 22 [] [] none (bodyOf Tryz.f29) (topQ prog [.tmp 2] K) (startX [t0]) [] w=S_foliantref47_digit t0 w K:=by kernel_rfl
theorem S_foliantref47_digit_ok {t0:Value}{w:World}{K:Ending→World→Prop}(h:S_foliantref47_digit t0 w K):Calls prog 29 #[t0] w K:=
 calls_of_wpX Tryz.func29 rfl rfl rfl rfl (Eq.mpr (S_foliantref47_digit_eq t0 w K) h)
def S_foliantref47_Sign_1 (t0 t5 t6:Value)(w:World)(N2:List Value→World→Prop)(K:Ending→World→Prop):Prop:=
 DoX prog (mBin .lss 3 t6 (.int .i64 7)) w (pk K) fun t36 w=>
 IfX t36 (DoX prog (mIx 9 t0 t6) w (pk K) fun t41 w=>
 CallX prog 29 #[t41] w (pk K) fun t42 w=>
 DoX prog (mBin .lss 3 t42 (.int .i64 0)) w (pk K) fun t44 w=>
 IfX t44 (K (.returned (.string ⟨#[]⟩)) w) (DoX prog (mBin .mul 3 (.int .i64 16) t5) w (pk K) fun t46 w=>
 DoX prog (mBin .add 3 t46 t42) w (pk K) fun t48 w=>
 DoX prog (mBin .add 3 t6 (.int .i64 1)) w (pk K) fun t38 w=>
 N2 [t48,t38] w)) (DoX prog (mEq .eql 3 (.tmp 49) (.const (.int .i64 0)) t5 (.int .i64 0)) w (pk K) fun t50 w=>
 GDo t50 false (fun E=>E t5 w) w fun t52 w=>
 GDo t50 false (fun E=>DoX prog (mBin .geq 3 t52 (.int .i64 55296)) w (pk K) E) w fun t53 w=>
 GDo t50 false (fun E=>E t53 w) w fun t54 w=>
 GDo t54 true (fun E=>E t5 w) w fun t55 w=>
 GDo t54 true (fun E=>DoX prog (mBin .leq 3 t55 (.int .i64 57343)) w (pk K) E) w fun t56 w=>
 GDo t50 false (fun E=>DoX prog (mPick t54 t56 (.bool false)) w (pk K) E) w fun t57 w=>
 DoX prog (mPick t50 (.bool true) t57) w (pk K) fun t58 w=>
 IfX t58 (K (.returned (.string ⟨#[]⟩)) w) (DoX prog (mConv 3 21 t5) w (pk K) fun t60 w=>
 DoX prog (mConv 21 9 t60) w (pk K) fun t61 w=>
 K (.returned t61) w))
def S_foliantref47_Sign_0 (t0 t3 t4:Value)(w:World)(N1:List Value→World→Prop)(K:Ending→World→Prop):Prop:=
 DoX prog (mBin .lss 3 t4 (.int .i64 256)) w (pk K) fun t10 w=>
 IfX t10 (DoX prog (mIA 23 t3 t4) w (pk K) fun t15 w=>
 DoX prog (mLoad 9 t15) w (pk K) fun t16 w=>
 DoX prog (mEq .eql 9 (.tmp 16) (.tmp 17) t16 t0) w (pk K) fun t18 w=>
 GDo t18 true (fun E=>E t0 w) w fun t20 w=>
 GDo t18 true (fun E=>DoX prog (mEq .neq 9 (.tmp 20) (.const (.string ⟨#[]⟩)) t20 (.string ⟨#[]⟩)) w (pk K) E) w fun t21 w=>
 DoX prog (mPick t18 t21 (.bool false)) w (pk K) fun t22 w=>
 IfX t22 (DoX prog (mConv 3 5 t4) w (pk K) fun t24 w=>
 DoX prog (mBuildS 41 1 #[(0,t24)]) w (pk K) fun t25 w=>
 DoX prog (mConv 41 9 t25) w (pk K) fun t26 w=>
 K (.returned t26) w) (DoX prog (mBin .add 3 t4 (.int .i64 1)) w (pk K) fun t12 w=>
 N1 [t12] w)) (DoX prog (mB .len #[9] 3 #[false] #[t0]) w (pk K) fun t28 w=>
 DoX prog (mEq .neq 3 (.tmp 28) (.const (.int .i64 7)) t28 (.int .i64 7)) w (pk K) fun t29 w=>
 GDo t29 false (fun E=>E t0 w) w fun t31 w=>
 GDo t29 false (fun E=>DoX prog (mSlice 9 t31 none (some (.int .i64 3)) none) w (pk K) E) w fun t32 w=>
 GDo t29 false (fun E=>DoX prog (mEq .neq 9 (.tmp 32) (.const (.string ⟨#[117,110,105]⟩)) t32 (.string ⟨#[117,110,105]⟩)) w (pk K) E) w fun t33 w=>
 DoX prog (mPick t29 (.bool true) t33) w (pk K) fun t34 w=>
 IfX t34 (K (.returned (.string ⟨#[]⟩)) w) (LoopX [(.int .i64 0),(.int .i64 3)] w (fun vs2 w N2=>∀_:Sg,S_foliantref47_Sign_1 t0 (vs2.getD 0 undef) (vs2.getD 1 undef) w N2 K)))
def S_foliantref47_Sign (t0:Value)(w:World)(K:Ending→World→Prop):Prop:=
 CallX prog 20 #[] w (pk K) fun t8 w=>
 LoopX [(.int .i64 0)] w (fun vs1 w N1=>∀_:Sg,S_foliantref47_Sign_0 t0 t8 (vs1.getD 0 undef) w N1 K)
theorem S_foliantref47_Sign_eq (t0:Value)(w:World)(K:Ending→World→Prop):wpX prog 62 [] [(3,[4]),(11,[5,6])] none (bodyOf Tryz.f15) (topQ prog [.tmp 2] K) (startX [t0]) [] w=S_foliantref47_Sign t0 w K:=by kernel_rfl
theorem S_foliantref47_Sign_ok {t0:Value}{w:World}{K:Ending→World→Prop}(h:S_foliantref47_Sign t0 w K):Calls prog 15 #[t0] w K:=
 calls_of_wpX Tryz.func15 rfl rfl rfl rfl (Eq.mpr (S_foliantref47_Sign_eq t0 w K) h)
def S_foliantref47_name_0 (t0 t1 t5:Value)(w:World)(N1:List Value→World→Prop)(K:Ending→World→Prop):Prop:=
 DoX prog (mB .len #[9] 3 #[false] #[t0]) w (pk K) fun t8 w=>
 DoX prog (mBin .lss 3 t5 t8) w (pk K) fun t9 w=>
 IfX t9 (DoX prog (mIx 9 t0 t5) w (pk K) fun t14 w=>
 DoX prog (mEq .eql 5 (.tmp 14) (.const (.int .u8 0)) t14 (.int .u8 0)) w (pk K) fun t15 w=>
 IfX t15 (K (.returned (.bool false)) w) (DoX prog (mBin .add 3 t5 (.int .i64 1)) w (pk K) fun t11 w=>
 N1 [t11] w)) (DoX prog (mB .len #[9] 3 #[false] #[t0]) w (pk K) fun t17 w=>
 DoX prog (mBin .geq 3 t17 t1) w (pk K) fun t19 w=>
 GDo t19 true (fun E=>E t0 w) w fun t21 w=>
 GDo t19 true (fun E=>DoX prog (mB .len #[9] 3 #[false] #[t21]) w (pk K) E) w fun t22 w=>
 GDo t19 true (fun E=>DoX prog (mBin .leq 3 t22 (.int .i64 127)) w (pk K) E) w fun t23 w=>
 DoX prog (mPick t19 t23 (.bool false)) w (pk K) fun t24 w=>
 K (.returned t24) w)
def S_foliantref47_name (t0 t1:Value)(w:World)(K:Ending→World→Prop):Prop:=
 LoopX [(.int .i64 0)] w (fun vs1 w N1=>∀_:Sg,S_foliantref47_name_0 t0 t1 (vs1.getD 0 undef) w N1 K)
theorem S_foliantref47_name_eq (t0 t1:Value)(w:World)(K:Ending→World→Prop):wpX prog 25 [] [(2,[5])] none (bodyOf Tryz.f32) (topQ prog [.tmp 4] K) (startX [t0,t1]) [] w=S_foliantref47_name t0 t1 w K:=by kernel_rfl
theorem S_foliantref47_name_ok {t0 t1:Value}{w:World}{K:Ending→World→Prop}(h:S_foliantref47_name t0 t1 w K):Calls prog 32 #[t0,t1] w K:=
 calls_of_wpX Tryz.func32 rfl rfl rfl rfl (Eq.mpr (S_foliantref47_name_eq t0 t1 w K) h)
def S_foliantref47_width (t0:Value)(w:World)(K:Ending→World→Prop):Prop:=
 DoX prog (mBin .geq 2 t0 (.int .i64 0)) w (pk K) fun t4 w=>
 GDo t4 true (fun E=>E t0 w) w fun t6 w=>
 GDo t4 true (fun E=>DoX prog (mBin .leq 2 t6 (.int .i64 100000)) w (pk K) E) w fun t7 w=>
 DoX prog (mPick t4 t7 (.bool false)) w (pk K) fun t8 w=>
 K (.returned t8) w
theorem S_foliantref47_width_eq (t0:Value)(w:World)(K:Ending→World→Prop):wpX prog 9 [] [] none (bodyOf Tryz.f33) (topQ prog [.tmp 2] K) (startX [t0]) [] w=S_foliantref47_width t0 w K:=by kernel_rfl
theorem S_foliantref47_width_ok {t0:Value}{w:World}{K:Ending→World→Prop}(h:S_foliantref47_width t0 w K):Calls prog 33 #[t0] w K:=
 calls_of_wpX Tryz.func33 rfl rfl rfl rfl (Eq.mpr (S_foliantref47_width_eq t0 w K) h)
def S_foliantref47_Check_2 (t1 t5:Value)(w:World)(N3:List Value→World→Prop)(K:Ending→World→Prop):Prop:=
 DoX prog (mFA 26 t1 5) w (pk K) fun t74 w=>
 DoX prog (mLoad 23 t74) w (pk K) fun t75 w=>
 DoX prog (mB .len #[23] 3 #[false] #[t75]) w (pk K) fun t76 w=>
 DoX prog (mBin .lss 3 t5 t76) w (pk K) fun t77 w=>
 IfX t77 (DoX prog (mFA 26 t1 5) w (pk K) fun t80 w=>
 DoX prog (mLoad 23 t80) w (pk K) fun t81 w=>
 DoX prog (mIA 23 t81 t5) w (pk K) fun t83 w=>
 DoX prog (mLoad 9 t83) w (pk K) fun t84 w=>
 CallX prog 32 #[t84,(.int .i64 0)] w (pk K) fun t85 w=>
 DoX prog (mUn .not t85) w (pk K) fun t86 w=>
 IfX t86 (K (.returned (.int .i64 1)) w) (DoX prog (mBin .add 3 t5 (.int .i64 1)) w (pk K) fun t79 w=>
 N3 [t79] w)) (DoX prog (mFA 26 t1 6) w (pk K) fun t87 w=>
 DoX prog (mLoad 24 t87) w (pk K) fun t88 w=>
 DoX prog (mFA 26 t1 1) w (pk K) fun t89 w=>
 DoX prog (mLoad 4 t89) w (pk K) fun t90 w=>
 CallX prog 34 #[t88,t90] w (pk K) fun t91 w=>
 K (.returned t91) w)
def S_foliantref47_Check_1 (t1 t4:Value)(w:World)(N2:List Value→World→Prop)(K:Ending→World→Prop):Prop:=
 DoX prog (mFA 26 t1 3) w (pk K) fun t46 w=>
 DoX prog (mLoad 22 t46) w (pk K) fun t47 w=>
 DoX prog (mB .len #[22] 3 #[false] #[t47]) w (pk K) fun t48 w=>
 DoX prog (mBin .lss 3 t4 t48) w (pk K) fun t49 w=>
 IfX t49 (DoX prog (mFA 26 t1 3) w (pk K) fun t52 w=>
 DoX prog (mLoad 22 t52) w (pk K) fun t53 w=>
 DoX prog (mIA 22 t53 t4) w (pk K) fun t55 w=>
 DoX prog (mLoad 2 t55) w (pk K) fun t56 w=>
 CallX prog 33 #[t56] w (pk K) fun t57 w=>
 DoX prog (mUn .not t57) w (pk K) fun t58 w=>
 IfX t58 (K (.returned (.int .i64 1)) w) (DoX prog (mBin .add 3 t4 (.int .i64 1)) w (pk K) fun t51 w=>
 N2 [t51] w)) (DoX prog (mFA 26 t1 5) w (pk K) fun t59 w=>
 DoX prog (mLoad 23 t59) w (pk K) fun t60 w=>
 DoX prog (mB .len #[23] 3 #[false] #[t60]) w (pk K) fun t61 w=>
 DoX prog (mEq .neq 3 (.tmp 61) (.const (.int .i64 0)) t61 (.int .i64 0)) w (pk K) fun t62 w=>
 GDo t62 true (fun E=>DoX prog (mFA 26 t1 1) w (pk K) E) w fun t64 w=>
 GDo t62 true (fun E=>DoX prog (mLoad 4 t64) w (pk K) E) w fun t65 w=>
 GDo t62 true (fun E=>E t65 w) w fun t66 w=>
 GDo t66 false (fun E=>DoX prog (mFA 26 t1 5) w (pk K) E) w fun t67 w=>
 GDo t66 false (fun E=>DoX prog (mLoad 23 t67) w (pk K) E) w fun t68 w=>
 GDo t66 false (fun E=>DoX prog (mB .len #[23] 3 #[false] #[t68]) w (pk K) E) w fun t69 w=>
 GDo t66 false (fun E=>DoX prog (mEq .neq 3 (.tmp 69) (.const (.int .i64 256)) t69 (.int .i64 256)) w (pk K) E) w fun t70 w=>
 GDo t62 true (fun E=>DoX prog (mPick t66 (.bool true) t70) w (pk K) E) w fun t71 w=>
 DoX prog (mPick t62 t71 (.bool false)) w (pk K) fun t72 w=>
 IfX t72 (K (.returned (.int .i64 1)) w) (LoopX [(.int .i64 0)] w (fun vs3 w N3=>∀_:Sg,S_foliantref47_Check_2 t1 (vs3.getD 0 undef) w N3 K)))
def S_foliantref47_Check_0 (t1 t3:Value)(w:World)(K:Ending→World→Prop):Prop:=
 DoX prog (mFA 26 t1 0) w (pk K) fun t8 w=>
 DoX prog (mLoad 9 t8) w (pk K) fun t9 w=>
 CallX prog 32 #[t9,(.int .i64 1)] w (pk K) fun t10 w=>
 DoX prog (mUn .not t10) w (pk K) fun t11 w=>
 GDo t11 false (fun E=>DoX prog (mFA 26 t1 2) w (pk K) E) w fun t13 w=>
 GDo t11 false (fun E=>DoX prog (mLoad 3 t13) w (pk K) E) w fun t14 w=>
 GDo t11 false (fun E=>DoX prog (mBin .lss 3 t14 (.int .i64 0)) w (pk K) E) w fun t15 w=>
 DoX prog (mPick t11 (.bool true) t15) w (pk K) fun t16 w=>
 GDo t16 false (fun E=>DoX prog (mFA 26 t1 2) w (pk K) E) w fun t18 w=>
 GDo t16 false (fun E=>DoX prog (mLoad 3 t18) w (pk K) E) w fun t19 w=>
 GDo t16 false (fun E=>E t3 w) w fun t20 w=>
 GDo t16 false (fun E=>DoX prog (mBin .gtr 3 t19 t20) w (pk K) E) w fun t21 w=>
 DoX prog (mPick t16 (.bool true) t21) w (pk K) fun t22 w=>
 GDo t22 false (fun E=>DoX prog (mFA 26 t1 2) w (pk K) E) w fun t24 w=>
 GDo t22 false (fun E=>DoX prog (mLoad 3 t24) w (pk K) E) w fun t25 w=>
 GDo t22 false (fun E=>DoX prog (mFA 26 t1 3) w (pk K) E) w fun t26 w=>
 GDo t22 false (fun E=>DoX prog (mLoad 22 t26) w (pk K) E) w fun t27 w=>
 GDo t22 false (fun E=>DoX prog (mB .len #[22] 3 #[false] #[t27]) w (pk K) E) w fun t28 w=>
 GDo t22 false (fun E=>DoX prog (mBin .add 3 t25 t28) w (pk K) E) w fun t29 w=>
 GDo t22 false (fun E=>E t3 w) w fun t30 w=>
 GDo t22 false (fun E=>DoX prog (mBin .gtr 3 t29 t30) w (pk K) E) w fun t31 w=>
 DoX prog (mPick t22 (.bool true) t31) w (pk K) fun t32 w=>
 GDo t32 false (fun E=>DoX prog (mFA 26 t1 3) w (pk K) E) w fun t34 w=>
 GDo t32 false (fun E=>DoX prog (mLoad 22 t34) w (pk K) E) w fun t35 w=>
 GDo t32 false (fun E=>DoX prog (mB .len #[22] 3 #[false] #[t35]) w (pk K) E) w fun t36 w=>
 GDo t32 false (fun E=>DoX prog (mBin .gtr 3 t36 (.int .i64 4096)) w (pk K) E) w fun t37 w=>
 DoX prog (mPick t32 (.bool true) t37) w (pk K) fun t38 w=>
 GDo t38 false (fun E=>DoX prog (mFA 26 t1 4) w (pk K) E) w fun t40 w=>
 GDo t38 false (fun E=>DoX prog (mLoad 2 t40) w (pk K) E) w fun t41 w=>
 GDo t38 false (fun E=>CallX prog 33 #[t41] w (pk K) E) w fun t42 w=>
 GDo t38 false (fun E=>DoX prog (mUn .not t42) w (pk K) E) w fun t43 w=>
 DoX prog (mPick t38 (.bool true) t43) w (pk K) fun t44 w=>
 IfX t44 (K (.returned (.int .i64 1)) w) (LoopX [(.int .i64 0)] w (fun vs2 w N2=>∀_:Sg,S_foliantref47_Check_1 t1 (vs2.getD 0 undef) w N2 K))
def S_foliantref47_Check (t0:Value)(w:World)(K:Ending→World→Prop):Prop:=
 DoX prog (mBox 26 t0) w (pk K) fun t1 w=>
 JoinX (fun J1=>
 DoX prog (mFA 26 t1 1) w (pk K) fun t6 w=>
 DoX prog (mLoad 4 t6) w (pk K) fun t7 w=>
 IfX t7 (J1 [(.int .i64 65536)] w) (J1 [(.int .i64 256)] w)) (fun vs1 w=>∀_:Sg,S_foliantref47_Check_0 t1 (vs1.getD 0 undef) w K)
theorem S_foliantref47_Check_eq (t0:Value)(w:World)(K:Ending→World→Prop):wpX prog 92 [(4,[3])] [(7,[4]),(14,[5])] none (bodyOf Tryz.f17) (topQ prog [.tmp 2] K) (startX [t0]) [] w=S_foliantref47_Check t0 w K:=by kernel_rfl
theorem S_foliantref47_Check_ok {t0:Value}{w:World}{K:Ending→World→Prop}(h:S_foliantref47_Check t0 w K):Calls prog 17 #[t0] w K:=
 calls_of_wpX Tryz.func17 rfl rfl rfl rfl (Eq.mpr (S_foliantref47_Check_eq t0 w K) h)
def S_foliantref47_Width (t0 t1:Value)(w:World)(K:Ending→World→Prop):Prop:=
 DoX prog (mBox 26 t0) w (pk K) fun t2 w=>
 DoX prog (mFA 26 t2 2) w (pk K) fun t6 w=>
 DoX prog (mLoad 3 t6) w (pk K) fun t7 w=>
 DoX prog (mBin .lss 3 t1 t7) w (pk K) fun t8 w=>
 GDo t8 false (fun E=>E t1 w) w fun t10 w=>
 GDo t8 false (fun E=>DoX prog (mConv 3 59 t10) w (pk K) E) w fun t11 w=>
 GDo t8 false (fun E=>DoX prog (mFA 26 t2 2) w (pk K) E) w fun t12 w=>
 GDo t8 false (fun E=>DoX prog (mLoad 3 t12) w (pk K) E) w fun t13 w=>
 GDo t8 false (fun E=>DoX prog (mConv 3 59 t13) w (pk K) E) w fun t14 w=>
 GDo t8 false (fun E=>DoX prog (mBin .sub 59 t11 t14) w (pk K) E) w fun t15 w=>
 GDo t8 false (fun E=>DoX prog (mFA 26 t2 3) w (pk K) E) w fun t16 w=>
 GDo t8 false (fun E=>DoX prog (mLoad 22 t16) w (pk K) E) w fun t17 w=>
 GDo t8 false (fun E=>DoX prog (mB .len #[22] 3 #[false] #[t17]) w (pk K) E) w fun t18 w=>
 GDo t8 false (fun E=>DoX prog (mConv 3 59 t18) w (pk K) E) w fun t19 w=>
 GDo t8 false (fun E=>DoX prog (mBin .geq 59 t15 t19) w (pk K) E) w fun t20 w=>
 DoX prog (mPick t8 (.bool true) t20) w (pk K) fun t21 w=>
 IfX t21 (DoX prog (mFA 26 t2 4) w (pk K) fun t22 w=>
 DoX prog (mLoad 2 t22) w (pk K) fun t23 w=>
 K (.returned t23) w) (DoX prog (mFA 26 t2 3) w (pk K) fun t24 w=>
 DoX prog (mLoad 22 t24) w (pk K) fun t25 w=>
 DoX prog (mConv 3 59 t1) w (pk K) fun t27 w=>
 DoX prog (mFA 26 t2 2) w (pk K) fun t28 w=>
 DoX prog (mLoad 3 t28) w (pk K) fun t29 w=>
 DoX prog (mConv 3 59 t29) w (pk K) fun t30 w=>
 DoX prog (mBin .sub 59 t27 t30) w (pk K) fun t31 w=>
 DoX prog (mIA 22 t25 t31) w (pk K) fun t32 w=>
 DoX prog (mLoad 2 t32) w (pk K) fun t33 w=>
 K (.returned t33) w)
theorem S_foliantref47_Width_eq (t0 t1:Value)(w:World)(K:Ending→World→Prop):wpX prog 34 [] [] none (bodyOf Tryz.f11) (topQ prog [.tmp 4] K) (startX [t0,t1]) [] w=S_foliantref47_Width t0 t1 w K:=by kernel_rfl
theorem S_foliantref47_Width_ok {t0 t1:Value}{w:World}{K:Ending→World→Prop}(h:S_foliantref47_Width t0 t1 w K):Calls prog 11 #[t0,t1] w K:=
 calls_of_wpX Tryz.func11 rfl rfl rfl rfl (Eq.mpr (S_foliantref47_Width_eq t0 t1 w K) h)
def S_foliantref47_Codes_1 (t1 t6 t8:Value)(w:World)(N2:List Value→World→Prop)(K:Ending→World→Prop):Prop:=
 DoX prog (mBin .add 3 t8 (.int .i64 1)) w (pk K) fun t31 w=>
 DoX prog (mB .len #[9] 3 #[false] #[t1]) w (pk K) fun t33 w=>
 DoX prog (mBin .lss 3 t31 t33) w (pk K) fun t34 w=>
 IfX t34 (QuietX w (fun C3=>
 QDo prog C3 (mIx 9 t1 t8) fun t40=>
 QDo prog C3 (mConv 5 3 t40) fun t41=>
 QDo prog C3 (mBin .mul 3 (.int .i64 256) t41) fun t42=>
 QDo prog C3 (mBin .add 3 t8 (.int .i64 1)) fun t45=>
 QDo prog C3 (mIx 9 t1 t45) fun t46=>
 QDo prog C3 (mConv 5 3 t46) fun t47=>
 QDo prog C3 (mBin .add 3 t42 t47) fun t48=>
 ∀w,C3 w →
 DoX prog (mBuildS 29 1 #[(0,t48)]) w (pm1 (pm1 (pm1 (pm1 (pm1 (pk K)))))) fun t49 w=>
 DoX prog (mB .append #[29,29] 29 #[false,false] #[t6,t49]) w (pm1 (pm1 (pm1 (pm1 (pm1 (pk K)))))) fun t50 w=>
 DoX prog (mBin .add 3 t8 (.int .i64 2)) w (pk K) fun t36 w=>
 N2 [t50,t36] w)) (K (.returned (.tuple #[t6,(.int .i64 0)])) w)
def S_foliantref47_Codes_0 (t1 t6 t7:Value)(w:World)(N1:List Value→World→Prop)(K:Ending→World→Prop):Prop:=
 DoX prog (mB .len #[9] 3 #[false] #[t1]) w (pk K) fun t14 w=>
 DoX prog (mBin .lss 3 t7 t14) w (pk K) fun t15 w=>
 IfX t15 (DoX prog (mIx 9 t1 t7) w (pk K) fun t21 w=>
 DoX prog (mConv 5 3 t21) w (pk K) fun t22 w=>
 DoX prog (mBuildS 29 1 #[(0,t22)]) w (pk K) fun t23 w=>
 DoX prog (mB .append #[29,29] 29 #[false,false] #[t6,t23]) w (pk K) fun t24 w=>
 DoX prog (mBin .add 3 t7 (.int .i64 1)) w (pk K) fun t17 w=>
 N1 [t24,t17] w) (K (.returned (.tuple #[t6,(.int .i64 0)])) w)
def S_foliantref47_Codes (t0 t1:Value)(w:World)(K:Ending→World→Prop):Prop:=
 DoX prog (mBox 26 t0) w (pk K) fun t2 w=>
 DoX prog (mFA 26 t2 1) w (pk K) fun t9 w=>
 DoX prog (mLoad 4 t9) w (pk K) fun t10 w=>
 DoX prog (mUn .not t10) w (pk K) fun t11 w=>
 IfX t11 (LoopX [(.slice none 0 0),(.int .i64 0)] w (fun vs1 w N1=>∀_:Sg,S_foliantref47_Codes_0 t1 (vs1.getD 0 undef) (vs1.getD 1 undef) w N1 K)) (DoX prog (mB .len #[9] 3 #[false] #[t1]) w (pk K) fun t27 w=>
 DoX prog (mBin .rem 3 t27 (.int .i64 2)) w (pk K) fun t28 w=>
 DoX prog (mEq .neq 3 (.tmp 28) (.const (.int .i64 0)) t28 (.int .i64 0)) w (pk K) fun t29 w=>
 IfX t29 (K (.returned (.tuple #[(.slice none 0 0),(.int .i64 3)])) w) (LoopX [(.slice none 0 0),(.int .i64 0)] w (fun vs2 w N2=>∀_:Sg,S_foliantref47_Codes_1 t1 (vs2.getD 0 undef) (vs2.getD 1 undef) w N2 K)))
theorem S_foliantref47_Codes_eq (t0 t1:Value)(w:World)(K:Ending→World→Prop):wpX prog 52 [] [(4,[6,7]),(11,[6,8])] none (bodyOf Tryz.f8) (topQ prog [.tmp 4,.tmp 5] K) (startX [t0,t1]) [] w=S_foliantref47_Codes t0 t1 w K:=by kernel_rfl
theorem S_foliantref47_Codes_ok {t0 t1:Value}{w:World}{K:Ending→World→Prop}(h:S_foliantref47_Codes t0 t1 w K):Calls prog 8 #[t0,t1] w K:=
 calls_of_wpX Tryz.func8 rfl rfl rfl rfl (Eq.mpr (S_foliantref47_Codes_eq t0 t1 w K) h)
def S_foliantref47_Say_0 (t1 t2 t7:Value)(w:World)(K:Ending→World→Prop):Prop:=
 DoX prog (mFA 26 t2 1) w (pk K) fun t23 w=>
 DoX prog (mLoad 4 t23) w (pk K) fun t24 w=>
 GDo t24 false (fun E=>E t1 w) w fun t26 w=>
 GDo t24 false (fun E=>DoX prog (mBin .lss 3 t26 (.int .i64 0)) w (pk K) E) w fun t27 w=>
 DoX prog (mPick t24 (.bool true) t27) w (pk K) fun t28 w=>
 GDo t28 false (fun E=>E t1 w) w fun t30 w=>
 GDo t28 false (fun E=>E t7 w) w fun t31 w=>
 GDo t28 false (fun E=>DoX prog (mB .len #[23] 3 #[false] #[t31]) w (pk K) E) w fun t32 w=>
 GDo t28 false (fun E=>DoX prog (mBin .geq 3 t30 t32) w (pk K) E) w fun t33 w=>
 DoX prog (mPick t28 (.bool true) t33) w (pk K) fun t34 w=>
 IfX t34 (K (.returned (.string ⟨#[]⟩)) w) (DoX prog (mIA 23 t7 t1) w (pk K) fun t37 w=>
 DoX prog (mLoad 9 t37) w (pk K) fun t38 w=>
 CallX prog 15 #[t38] w (pk K) fun t39 w=>
 K (.returned t39) w)
def S_foliantref47_Say (t0 t1:Value)(w:World)(K:Ending→World→Prop):Prop:=
 DoX prog (mBox 26 t0) w (pk K) fun t2 w=>
 DoX prog (mFA 26 t2 6) w (pk K) fun t9 w=>
 DoX prog (mLoad 24 t9) w (pk K) fun t10 w=>
 CallX prog 27 #[t10,t1] w (pk K) fun t12 w=>
 DoX prog (mExt t12 0) w (pk K) fun t13 w=>
 DoX prog (mExt t12 1) w (pk K) fun t14 w=>
 IfX t14 (K (.returned t13) w) (DoX prog (mFA 26 t2 5) w (pk K) fun t17 w=>
 DoX prog (mLoad 23 t17) w (pk K) fun t18 w=>
 JoinX (fun J1=>
 DoX prog (mB .len #[23] 3 #[false] #[t18]) w (pk K) fun t20 w=>
 DoX prog (mEq .eql 3 (.tmp 20) (.const (.int .i64 0)) t20 (.int .i64 0)) w (pk K) fun t21 w=>
 IfX t21 (CallX prog 20 #[] w (pk K) fun t22 w=>
 J1 [t22] w) (J1 [t18] w)) (fun vs1 w=>∀_:Sg,S_foliantref47_Say_0 t1 t2 (vs1.getD 0 undef) w K))
theorem S_foliantref47_Say_eq (t0 t1:Value)(w:World)(K:Ending→World→Prop):wpX prog 40 [(7,[7])] [] none (bodyOf Tryz.f13) (topQ prog [.tmp 4] K) (startX [t0,t1]) [] w=S_foliantref47_Say t0 t1 w K:=by kernel_rfl
theorem S_foliantref47_Say_ok {t0 t1:Value}{w:World}{K:Ending→World→Prop}(h:S_foliantref47_Say t0 t1 w K):Calls prog 13 #[t0,t1] w K:=
 calls_of_wpX Tryz.func13 rfl rfl rfl rfl (Eq.mpr (S_foliantref47_Say_eq t0 t1 w K) h)
def S_foliantref47_maps_0 (t0 t1 t5:Value)(w:World)(N1:List Value→World→Prop)(K:Ending→World→Prop):Prop:=
 DoX prog (mB .len #[24] 3 #[false] #[t0]) w (pk K) fun t13 w=>
 DoX prog (mBin .lss 3 t5 t13) w (pk K) fun t14 w=>
 GDo t14 true (fun E=>E t5 w) w fun t16 w=>
 GDo t14 true (fun E=>E t1 w) w fun t17 w=>
 GDo t14 true (fun E=>DoX prog (mB .len #[24] 3 #[false] #[t17]) w (pk K) E) w fun t18 w=>
 GDo t14 true (fun E=>DoX prog (mBin .lss 3 t16 t18) w (pk K) E) w fun t19 w=>
 DoX prog (mPick t14 t19 (.bool false)) w (pk K) fun t20 w=>
 IfX t20 (QuietX w (fun C2=>
 QDo prog C2 (mIA 24 t0 t5) fun t25=>
 QDo prog C2 (mLoad 44 t25) fun t26=>
 QDo prog C2 (mIA 24 t1 t5) fun t29=>
 QDo prog C2 (mLoad 44 t29) fun t30=>
 QDo prog C2 (mEq .neq 44 (.tmp 26) (.tmp 30) t26 t30) fun t31=>
 ∀w,C2 w →
 IfX t31 (K (.returned (.bool false)) w) (DoX prog (mBin .add 3 t5 (.int .i64 1)) w (pk K) fun t22 w=>
 N1 [t22] w))) (K (.returned (.bool true)) w)
def S_foliantref47_maps (t0 t1:Value)(w:World)(K:Ending→World→Prop):Prop:=
 DoX prog (mB .len #[24] 3 #[false] #[t0]) w (pk K) fun t7 w=>
 DoX prog (mB .len #[24] 3 #[false] #[t1]) w (pk K) fun t9 w=>
 DoX prog (mEq .neq 3 (.tmp 7) (.tmp 9) t7 t9) w (pk K) fun t10 w=>
 IfX t10 (K (.returned (.bool false)) w) (LoopX [(.int .i64 0)] w (fun vs1 w N1=>∀_:Sg,S_foliantref47_maps_0 t0 t1 (vs1.getD 0 undef) w N1 K))
theorem S_foliantref47_maps_eq (t0 t1:Value)(w:World)(K:Ending→World→Prop):wpX prog 32 [] [(4,[5])] none (bodyOf Tryz.f51) (topQ prog [.tmp 4] K) (startX [t0,t1]) [] w=S_foliantref47_maps t0 t1 w K:=by kernel_rfl
theorem S_foliantref47_maps_ok {t0 t1:Value}{w:World}{K:Ending→World→Prop}(h:S_foliantref47_maps t0 t1 w K):Calls prog 51 #[t0,t1] w K:=
 calls_of_wpX Tryz.func51 rfl rfl rfl rfl (Eq.mpr (S_foliantref47_maps_eq t0 t1 w K) h)
def S_foliantref47_Same_0 (t2 t3 t5:Value)(w:World)(N1:List Value→World→Prop)(K:Ending→World→Prop):Prop:=
 DoX prog (mFA 26 t2 3) w (pk K) fun t14 w=>
 DoX prog (mLoad 22 t14) w (pk K) fun t15 w=>
 DoX prog (mB .len #[22] 3 #[false] #[t15]) w (pk K) fun t16 w=>
 DoX prog (mBin .lss 3 t5 t16) w (pk K) fun t17 w=>
 GDo t17 true (fun E=>E t5 w) w fun t19 w=>
 GDo t17 true (fun E=>DoX prog (mFA 26 t3 3) w (pk K) E) w fun t20 w=>
 GDo t17 true (fun E=>DoX prog (mLoad 22 t20) w (pk K) E) w fun t21 w=>
 GDo t17 true (fun E=>DoX prog (mB .len #[22] 3 #[false] #[t21]) w (pk K) E) w fun t22 w=>
 GDo t17 true (fun E=>DoX prog (mBin .lss 3 t19 t22) w (pk K) E) w fun t23 w=>
 DoX prog (mPick t17 t23 (.bool false)) w (pk K) fun t24 w=>
 IfX t24 (QuietX w (fun C2=>
 QDo prog C2 (mFA 26 t2 3) fun t27=>
 QDo prog C2 (mLoad 22 t27) fun t28=>
 QDo prog C2 (mIA 22 t28 t5) fun t30=>
 QDo prog C2 (mLoad 2 t30) fun t31=>
 QDo prog C2 (mFA 26 t3 3) fun t32=>
 QDo prog C2 (mLoad 22 t32) fun t33=>
 QDo prog C2 (mIA 22 t33 t5) fun t35=>
 QDo prog C2 (mLoad 2 t35) fun t36=>
 QDo prog C2 (mEq .neq 2 (.tmp 31) (.tmp 36) t31 t36) fun t37=>
 ∀w,C2 w →
 IfX t37 (K (.returned (.bool false)) w) (DoX prog (mBin .add 3 t5 (.int .i64 1)) w (pk K) fun t26 w=>
 N1 [t26] w))) (DoX prog (mFA 26 t2 0) w (pk K) fun t38 w=>
 DoX prog (mLoad 9 t38) w (pk K) fun t39 w=>
 DoX prog (mFA 26 t3 0) w (pk K) fun t40 w=>
 DoX prog (mLoad 9 t40) w (pk K) fun t41 w=>
 DoX prog (mEq .eql 9 (.tmp 39) (.tmp 41) t39 t41) w (pk K) fun t42 w=>
 GDo t42 true (fun E=>DoX prog (mFA 26 t2 1) w (pk K) E) w fun t44 w=>
 GDo t42 true (fun E=>DoX prog (mLoad 4 t44) w (pk K) E) w fun t45 w=>
 GDo t42 true (fun E=>DoX prog (mFA 26 t3 1) w (pk K) E) w fun t46 w=>
 GDo t42 true (fun E=>DoX prog (mLoad 4 t46) w (pk K) E) w fun t47 w=>
 GDo t42 true (fun E=>DoX prog (mEq .eql 4 (.tmp 45) (.tmp 47) t45 t47) w (pk K) E) w fun t48 w=>
 DoX prog (mPick t42 t48 (.bool false)) w (pk K) fun t49 w=>
 GDo t49 true (fun E=>DoX prog (mFA 26 t2 2) w (pk K) E) w fun t51 w=>
 GDo t49 true (fun E=>DoX prog (mLoad 3 t51) w (pk K) E) w fun t52 w=>
 GDo t49 true (fun E=>DoX prog (mFA 26 t3 2) w (pk K) E) w fun t53 w=>
 GDo t49 true (fun E=>DoX prog (mLoad 3 t53) w (pk K) E) w fun t54 w=>
 GDo t49 true (fun E=>DoX prog (mEq .eql 3 (.tmp 52) (.tmp 54) t52 t54) w (pk K) E) w fun t55 w=>
 DoX prog (mPick t49 t55 (.bool false)) w (pk K) fun t56 w=>
 GDo t56 true (fun E=>DoX prog (mFA 26 t2 4) w (pk K) E) w fun t58 w=>
 GDo t56 true (fun E=>DoX prog (mLoad 2 t58) w (pk K) E) w fun t59 w=>
 GDo t56 true (fun E=>DoX prog (mFA 26 t3 4) w (pk K) E) w fun t60 w=>
 GDo t56 true (fun E=>DoX prog (mLoad 2 t60) w (pk K) E) w fun t61 w=>
 GDo t56 true (fun E=>DoX prog (mEq .eql 2 (.tmp 59) (.tmp 61) t59 t61) w (pk K) E) w fun t62 w=>
 DoX prog (mPick t56 t62 (.bool false)) w (pk K) fun t63 w=>
 GDo t63 true (fun E=>DoX prog (mFA 26 t2 5) w (pk K) E) w fun t65 w=>
 GDo t63 true (fun E=>DoX prog (mLoad 23 t65) w (pk K) E) w fun t66 w=>
 GDo t63 true (fun E=>DoX prog (mFA 26 t3 5) w (pk K) E) w fun t67 w=>
 GDo t63 true (fun E=>DoX prog (mLoad 23 t67) w (pk K) E) w fun t68 w=>
 GDo t63 true (fun E=>CallX prog 18 #[t66,t68] w (pk K) E) w fun t69 w=>
 DoX prog (mPick t63 t69 (.bool false)) w (pk K) fun t70 w=>
 GDo t70 true (fun E=>DoX prog (mFA 26 t2 6) w (pk K) E) w fun t72 w=>
 GDo t70 true (fun E=>DoX prog (mLoad 24 t72) w (pk K) E) w fun t73 w=>
 GDo t70 true (fun E=>DoX prog (mFA 26 t3 6) w (pk K) E) w fun t74 w=>
 GDo t70 true (fun E=>DoX prog (mLoad 24 t74) w (pk K) E) w fun t75 w=>
 GDo t70 true (fun E=>CallX prog 51 #[t73,t75] w (pk K) E) w fun t76 w=>
 DoX prog (mPick t70 t76 (.bool false)) w (pk K) fun t77 w=>
 K (.returned t77) w)
def S_foliantref47_Same (t0 t1:Value)(w:World)(K:Ending→World→Prop):Prop:=
 DoX prog (mBox 26 t0) w (pk K) fun t2 w=>
 DoX prog (mBox 26 t1) w (pk K) fun t3 w=>
 DoX prog (mFA 26 t2 3) w (pk K) fun t6 w=>
 DoX prog (mLoad 22 t6) w (pk K) fun t7 w=>
 DoX prog (mB .len #[22] 3 #[false] #[t7]) w (pk K) fun t8 w=>
 DoX prog (mFA 26 t3 3) w (pk K) fun t9 w=>
 DoX prog (mLoad 22 t9) w (pk K) fun t10 w=>
 DoX prog (mB .len #[22] 3 #[false] #[t10]) w (pk K) fun t11 w=>
 DoX prog (mEq .neq 3 (.tmp 8) (.tmp 11) t8 t11) w (pk K) fun t12 w=>
 IfX t12 (K (.returned (.bool false)) w) (LoopX [(.int .i64 0)] w (fun vs1 w N1=>∀_:Sg,S_foliantref47_Same_0 t2 t3 (vs1.getD 0 undef) w N1 K))
theorem S_foliantref47_Same_eq (t0 t1:Value)(w:World)(K:Ending→World→Prop):wpX prog 78 [] [(4,[5])] none (bodyOf Tryz.f25) (topQ prog [.tmp 4] K) (startX [t0,t1]) [] w=S_foliantref47_Same t0 t1 w K:=by kernel_rfl
theorem S_foliantref47_Same_ok {t0 t1:Value}{w:World}{K:Ending→World→Prop}(h:S_foliantref47_Same t0 t1 w K):Calls prog 25 #[t0,t1] w K:=
 calls_of_wpX Tryz.func25 rfl rfl rfl rfl (Eq.mpr (S_foliantref47_Same_eq t0 t1 w K) h)
end
end Go.Proofs.YtmkodaephgnehaaGreatDoor
