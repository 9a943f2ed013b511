/- Texts that go together: LxI SRef03 LxR SHead SRef17 HdA LxS LxT LxU LxV LxW LxX LxY LxZ LxAA LxAB LxAC SLaw04 PlT LxAD SLaw03 LxAE HdB HdC SLaw17 HdD SRef55 ScA ObJ SWrite ObK ObL ObM ObN ObO SLaw07 ObP ObQ ObR Plain05B Plain05C Plain05D Plain06 EngX EngY SSlc SlcA SMake SIdx OcIdx MkA SMake5 MkB MkC LxAF LxAG SLaw04B PlW SRef06 SParse PsA MkD MkE MkF EngZ MkG Plain19 DcA SDocs SRef19 DcB DcC SSlcI SlcI DcD DcE DcF Plain19B DcG EngAC PsB PsC Plain07B Plain38 SLabel SRef38 SCut LbA LbB LbC LbD LbE DcH STexts OcTx SSame SApart Plain07C ObS0 ObT DcI LbF Plain38B Plain38C Plain38D Plain38E Plain06B Plain06C Plain06D Plain06E PsD PsE PsF SMake6 PsG. -/
import Derived.Test.YtoofficgclghoaaGreatDoorRows
import Derived.Lib.SmallJoins
import Derived.Sort.Walk0
import Derived.Laws.CopyRow
import Derived.Lib.AppendZerosOnto
import Derived.Lib.SliceRun
import Derived.Lib.Overlaps
import Derived.Laws.Externs
import Derived.Lib.Repeat
import Derived.Lib.Case
import Derived.Test.YtoofficgclghoaaGreatDoorMmokpkjkm
import Derived.Test.YtoofficgclghoaaGreatDoorMogaapjal
import Derived.Test.YtoofficgclghoaaGreatDoorMclokkgec
set_option linter.defProp false
set_option linter.unusedSimpArgs false
set_option linter.unusedVariables false
set_option maxRecDepth 20000
open Go.Proofs.Tryz (prog)
namespace Go.Proofs.YtoofficgclghoaaGreatDoor
section
open Eng Go.RowKit
theorem begins_one (s:List UInt8)(c:UInt8)(k:Nat)(hk:k≤s.length):begins s [c] (k:Int)=decide ((s.drop k).head?=some c):=by
 unfold begins;rw[Int.toNat_natCast,decide_eq_true (by omega),decide_eq_true (by omega)];cases hd:s.drop k with
|nil=>simp
|cons d t=>
  by_cases h:d=c
  ·subst h;simp[List.isPrefixOf]
  ·have h11:(c==d)=false:=by simpa using fun e:c=d=>h e.symm
   have h12:¬(some d=some c):=by simpa using h
   rw[List.head?_cons,decide_eq_false h12];simp[List.isPrefixOf,h11]
theorem m_cut {w:World}{PK:PKT}{K:VWP}{s:List UInt8}{a:Int}:DoX prog (mBuild 137 #[(0,.string ⟨s.toArray⟩),(1,.int .i64 a)]) w PK K=K (cutV s a) w:=do_eq (by kernel_rfl)
theorem next_ret (s:List UInt8)(i:Int)(w:World)(hs:s.length≤1099511627776):Ret prog 61 #[.string ⟨s.toArray⟩,.int .i64 i] w (fun v w'=>v=tokR (Lx.next s i)∧Below w.heap.size w w'):=by
 refine ret_of fun K hK=>S_lex_Next_ok ?_;unfold S_lex_Next;refine o_tok (Own.start w) fun b w1 ho=>?_;have out:(i < 0∨(s.length:Int) < i)→CallX prog 99 #[(.int .i64 1)] w1 (pk K) fun t42 w=>
   DoX prog (mExt t42 0) w (pk K) fun t43 w=>
   DoX prog (mExt t42 1) w (pk K) fun t44 w=>
   DoX prog (mStore 53 (.pointer (some ⟨b,0,none⟩)) t43) w (pk K) fun _ w=>
   RetX prog [.cell (.pointer (some ⟨b,0,none⟩)) 53,.val t44] w K:=fun h=>
  tok_tail 0 ho rfl (refused_ret 1 _) fun w' hb=>hK _ _ ⟨by rw[Lx.next,if_pos h],hb⟩
 by_cases h1:i < 0
 ·simp only[rs,h1,decide_true,g_un];exact out (.inl h1)
 simp only[rs,h1,decide_false,s_len Tryz.underlying9];by_cases h2:(s.length:Int) < i
 ·simp only[rs,h2,decide_true];exact out (.inr h2)
 simp only[rs,h2,decide_false];have hsk:Lx.skipI s i=((Lx.skip s i.toNat:Nat):Int):=by rw[Lx.skipI,if_neg (by omega)]
 have hN:Lx.next s i=Lx.token s (Lx.skip s i.toNat):=by rw[Lx.next,if_neg (by omega)]
 have hle:=Lx.skip_le s (k:=i.toNat) (by omega);refine c_eq (skip_ret s i w1 (by omega)) ?_;rw[hsk];generalize Lx.skip s i.toNat=a at *;rw[m_cut];refine o_new (fun b=>.pointer (some ⟨b,0,none⟩)) (cutC [] 0) 137 (fun _=>by kernel_rfl) ho fun b1 w2 ho=>?_;refine o_put 0 ho rfl (new:=cutC s a) (show _=some 2 by kernel_rfl) (by
  intro v hv;simp only[cutC,List.mem_cons,List.not_mem_nil,or_false] at hv;rcases hv with rfl|rfl<;>rfl) rfl fun w3 ho=>?_
 have ho:Own w w3 [cutE b1 s a,tokE b Lx.none_]:=ho;simp only[fa_c1,cut_a ho 0 rfl,s_len Tryz.underlying9,rs];by_cases hend:(a:Int)=(s.length:Int)
 ·simp only[hend,decide_true,i_t];rw[←hend];simp only[cut_a ho 0 rfl,m_tok2];refine tok_put 1 ho rfl fun w' ho=>hK _ _ ⟨?_,ho.done⟩;rw[hN,Lx.token,List.drop_eq_nil_of_le (by omega)]
 have ha:a < s.length:=by omega
 have hd:=Lx.drop_cons ha;simp only[hend,decide_false,i_f];have f1:fOff prog 137 1=some 1:=by kernel_rfl
 have hw1:IntKind.wrap .i64 ((a:Int)+1)=((a+1:Nat):Int):=by rw[wrap64_id (by omega) (by omega)];omega
 refine quiet (q_do _ (fun _=>run_fa f1) (q_at _ (fun _ hb=>cutr_a (ho.grow hb) 0 rfl) (q_do _ (fun _=>run_fa f1) (q_at _ (fun _ hb=>cutr_a (ho.grow hb) 0 rfl) (q_do _ (fun _=>by rw[r_add,hw1]) ?_)))));refine q_do (.string ⟨([s[a]]:List UInt8).toArray⟩) (fun w=>?_) ?_
 ·have:=@run_s_slice prog w 9 s .i64 .i64 (a:Int) ((a+1:Nat):Int) Tryz.underlying9 (by omega) (by omega) (by omega);rw[this,show (s.drop (a:Int).toNat).take (((a+1:Nat):Int).toNat - (a:Int).toNat)=Lx.cut s a (a+1) from rfl,cut_one ha]
 refine q_do _ (fun _=>run_fa f1) (q_at _ (fun _ hb=>cutr_a (ho.grow hb) 0 rfl) (q_do _ (fun _=>by rw[r_add,hw1]) ?_));refine q_call (.bool (decide ((s.drop (a+1)).head?=some s[a]))) (fun w hb=>ret_same ?_ hb) ?_
 ·rw[←begins_one s s[a] (a+1) (by omega)];exact begins_ret s [s[a]] _ w
 intro w4 hb;have ho:=ho.grow hb;simp only[fa_c1,cut_a ho 0 rfl,s_at ha];have hT:Lx.next s i=if s[a]=91∨s[a]=93∨s[a]=123∨s[a]=125 then Lx.mark s a 1
  else if s[a]=60 then (if (s.drop (a+1)).head?=some s[a] then Lx.mark s a 2 else Lx.hex s a)
  else if s[a]=62 then (if (s.drop (a+1)).head?=some s[a] then Lx.mark s a 2 else Lx.refused 3)
  else if s[a]=47 then Lx.name s a
  else if s[a]=40 then Lx.text s a
  else if s[a]=41 then Lx.refused 3
  else Lx.word s a:=by rw[hN,Lx.token,hd]
 refine join fun J hJ=>?_;have rest:∀b:Bool,(b=true↔(s[a]=91∨s[a]=93∨s[a]=123∨s[a]=125))→J [.bool b] w4:=by
  intro bb hbb;refine hJ _ _ fun _=>?_;simp only[S_lex_Next_0,gd];cases bb with
 |true=>
   simp only[i_t,cut_v ho 0 rfl];exact tok_tail 1 ho rfl (mark_ret s a 1 _ hs (by omega)) fun w' hb=>hK _ _ ⟨by rw[hT,if_pos (hbb.1 rfl)],hb⟩
 |false=>
   have hn:¬(s[a]=91∨s[a]=93∨s[a]=123∨s[a]=125):=fun h=>by have:=hbb.2 h;cases this
   rw[if_neg hn] at hT;have two:(s.drop (a+1)).head?=some s[a]→a+2≤s.length:=by
    intro h;cases hdd:s.drop (a+1) with
   |nil=>rw[hdd] at h;cases h
   |cons x t=>
     have:=congrArg List.length hdd;simp at this;omega
   have q1:=u8d s[a] 60 60 rfl;have q2:=u8d s[a] 62 62 rfl;have q3:=u8d s[a] 47 47 rfl;have q4:=u8d s[a] 40 40 rfl;have q5:=u8d s[a] 41 41 rfl;by_cases g1:s[a]=60
   ·simp only[rs,q1,decide_eq_true g1];rw[if_pos g1] at hT;by_cases g:(s.drop (a+1)).head?=some s[a]
    ·simp only[decide_eq_true g,i_t,cut_v ho 0 rfl];exact tok_tail 1 ho rfl (mark_ret s a 2 _ hs (two g)) fun w' hb=>hK _ _ ⟨by rw[hT,if_pos g],hb⟩
    ·simp only[decide_eq_false g,i_f,cut_v ho 0 rfl];exact tok_tail 1 ho rfl (cut_hex_ret s a _ hs ha) fun w' hb=>hK _ _ ⟨by rw[hT,if_neg g],hb⟩
   rw[if_neg g1] at hT;simp only[rs,q1,decide_eq_false g1];by_cases g2:s[a]=62
   ·simp only[rs,q2,decide_eq_true g2];rw[if_pos g2] at hT;by_cases g:(s.drop (a+1)).head?=some s[a]
    ·simp only[decide_eq_true g,i_t,cut_v ho 0 rfl];exact tok_tail 1 ho rfl (mark_ret s a 2 _ hs (two g)) fun w' hb=>hK _ _ ⟨by rw[hT,if_pos g],hb⟩
    ·simp only[decide_eq_false g,i_f];exact tok_tail 1 ho rfl (refused_ret 3 _) fun w' hb=>hK _ _ ⟨by rw[hT,if_neg g],hb⟩
   rw[if_neg g2] at hT;simp only[rs,q2,decide_eq_false g2];by_cases g3:s[a]=47
   ·simp only[rs,q3,decide_eq_true g3,cut_v ho 0 rfl];exact tok_tail 1 ho rfl (name_ret s a _ hs ha) fun w' hb=>hK _ _ ⟨by rw[hT,if_pos g3],hb⟩
   rw[if_neg g3] at hT;simp only[rs,q3,decide_eq_false g3];by_cases g4:s[a]=40
   ·simp only[rs,q4,decide_eq_true g4,cut_v ho 0 rfl];exact tok_tail 1 ho rfl (text_ret s a _ hs ha) fun w' hb=>hK _ _ ⟨by rw[hT,if_pos g4],hb⟩
   rw[if_neg g4] at hT;simp only[rs,q4,decide_eq_false g4];by_cases g5:s[a]=41
   ·simp only[rs,q5,decide_eq_true g5];exact tok_tail 1 ho rfl (refused_ret 3 _) fun w' hb=>hK _ _ ⟨by rw[hT,if_pos g5],hb⟩
   rw[if_neg g5] at hT;simp only[rs,q5,decide_eq_false g5,cut_v ho 0 rfl];exact tok_tail 1 ho rfl (word_ret s a _ hs (by omega)) fun w' hb=>hK _ _ ⟨by rw[hT],hb⟩
 have p1:=u8d s[a] 91 91 rfl;have p2:=u8d s[a] 93 93 rfl;have p3:=u8d s[a] 123 123 rfl;have p4:=u8d s[a] 125 125 rfl;by_cases g1:s[a]=91
 ·simp only[rs,p1,decide_eq_true g1];exact rest true (by simp[g1])
 simp only[rs,p1,decide_eq_false g1];by_cases g2:s[a]=93
 ·simp only[rs,p2,decide_eq_true g2];exact rest true (by simp[g2])
 simp only[rs,p2,decide_eq_false g2];by_cases g3:s[a]=123
 ·simp only[rs,p3,decide_eq_true g3];exact rest true (by simp[g3])
 simp only[rs,p3,decide_eq_false g3];by_cases g4:s[a]=125
 ·simp only[rs,p4,decide_eq_true g4];exact rest true (by simp[g4])
 simp only[rs,p4,decide_eq_false g4];exact rest false (by simp[g1,g2,g3,g4])
end
end Go.Proofs.YtoofficgclghoaaGreatDoor










namespace Go.Proofs.YtoofficgclghoaaGreatDoor
section
open Eng Go.RowKit
def fltC (a e:Int):List Value:=[.int .i64 a,.int .i64 e]
def fltV (f:Int×Int):Value:=.agg (fltC f.1 f.2).toArray
def fltE (b:Nat)(f:Int×Int):Ent:=.cells b (fltC f.1 f.2) 26
theorem aggFlt:aggN prog 26=some 2:=by kernel_rfl
theorem szFlt:(Tryz.prog.info? 26).map (·.size)=some 2:=by kernel_rfl
theorem fltC_one (a e:Int):∀v∈fltC a e,v.oneCell'=true:=by
 intro v hv;simp only[fltC,List.mem_cons,List.not_mem_nil,or_false] at hv;rcases hv with rfl|rfl<;>rfl
section
variable {w:World}{PK:PKT}{K:VWP}{S:Nat→Prop}{w0:World}{L:List Ent}
theorem o_flt (ho:OwnS S w0 w L)(k:∀b w',OwnS S w0 w' (fltE b (0,0)::L)→K (.pointer (some ⟨b,0,none⟩)) w'):DoX prog (mAlloc 26) w PK K:=
 o_new (fun b=>.pointer (some ⟨b,0,none⟩)) (fltC 0 0) 26 (fun _=>by kernel_rfl) ho k
theorem flt_put (i:Nat){b:Nat}{f g:Int×Int}(ho:OwnS S w0 w L)(hi:L[i]?=some (fltE b f))(k:∀w',OwnS S w0 w' (L.set i (fltE b g))→K undef w'):DoX prog (mStore 26 (.pointer (some ⟨b,0,none⟩)) (fltV g)) w PK K:=
 o_put i ho hi (new:=fltC g.1 g.2) szFlt (fltC_one _ _) rfl k
theorem m_flt0:DoX prog (mBuild 26 #[]) w PK K=K (fltV (0,0)) w:=do_eq (by kernel_rfl)
theorem m_flt2 {a e:Int}:DoX prog (mBuild 26 #[(0,.int .i64 a),(1,.int .i64 e)]) w PK K=K (fltV (a,e)) w:=do_eq (by kernel_rfl)
theorem fa_t0 {b:Nat}:DoX prog (mFA 53 (.pointer (some ⟨b,0,none⟩)) 0) w PK K=K (.pointer (some ⟨b,0,none⟩)) w:=f_addr (show fOff prog 53 0=some 0 by kernel_rfl)
theorem fa_t1 {b:Nat}:DoX prog (mFA 53 (.pointer (some ⟨b,0,none⟩)) 1) w PK K=K (.pointer (some ⟨b,1,none⟩)) w:=f_addr (show fOff prog 53 1=some 1 by kernel_rfl)
theorem fa_t2 {b:Nat}:DoX prog (mFA 53 (.pointer (some ⟨b,0,none⟩)) 2) w PK K=K (.pointer (some ⟨b,2,none⟩)) w:=f_addr (show fOff prog 53 2=some 2 by kernel_rfl)
end
end
end Go.Proofs.YtoofficgclghoaaGreatDoor

namespace Go.Proofs.YtoofficgclghoaaGreatDoor
section
open Eng Go.RowKit
theorem draw {w:World}{F:World→Prop}(h:F w.drew):DrawX w F:=⟨h⟩
end
section
open Eng Go.RowKit
theorem eqFlt:eqT prog 26 [(0,false),(1,false)]:=⟨by kernel_rfl,by kernel_rfl,by kernel_rfl,by kernel_rfl⟩
theorem flt_beq (x y:Int×Int):([(0,false),(1,false)]:List (Nat×Bool)).all (fun p=>cellEq (fltC x.1 x.2).toArray[p.1]? (fltC y.1 y.2).toArray[p.1]?)=decide (x=y):=by
 have e:([(0,false),(1,false)]:List (Nat×Bool)).all (fun p=>cellEq (fltC x.1 x.2).toArray[p.1]? (fltC y.1 y.2).toArray[p.1]?)=((x.1==y.1)&&((x.2==y.2)&&true)):=rfl;rw[e,Bool.eq_iff_iff];obtain⟨a,b⟩:=x;obtain⟨a',b'⟩:=y;simp
section
variable {w:World}{PK:PKT}{K:VWP}
theorem e_flt {xo yo:Operand}{x y:Int×Int}:DoX prog (mEq .eql 26 xo yo (fltV x) (fltV y)) w PK K=K (.bool (decide (x=y))) w:=by
 refine do_eq ?_;rw[←flt_beq];exact run_eql_agg eqFlt rfl
end
end
end Go.Proofs.YtoofficgclghoaaGreatDoor



namespace Go.Proofs.YtoofficgclghoaaGreatDoor
section
open Eng Go.RowKit
theorem Tb.mono {w w':World}(h:Tb w)(hb:Below w.heap.size w w'):Tb w':=
 Go.Joins.tab_stays (show Tryz.prog.globalNamed "internal/strconv.uint64pow10"=some 3 by kernel_rfl) h hb (Nat.le_refl _)
theorem Tb.own {w w':World}{L:List Ent}(h:Tb w)(ho:Own w w' L):Tb w':=h.mono ho.done
end
end Go.Proofs.YtoofficgclghoaaGreatDoor








namespace Go.Proofs.YtoofficgclghoaaGreatDoor
section
open Eng Go.RowKit
section
variable {w:World}{PK:PKT}{K:VWP}{S:Nat→Prop}{w0:World}{L:List Ent}
end
abbrev StrRow (v:Value)(l:List (List UInt8)):Ent:=.row 9 1 v l.length (strsV l)
end
section
open Eng Go.RowKit
theorem kid_at {A:Nat→Prop}{wb:World}{o:Ob}{vk vc:Value}{cs:List Value}(h:ObAt A wb o vk vc cs){i:Nat}(hi:i < o.kids.length) :
  ∃v p,OV A wb v o.kids[i]∧∀W,Kept A wb W→(mIA 40 vc (.int .i64 (i:Int))).run prog W=.ok (.value (.pointer (some p))) W∧(mLoad 42 (.pointer (some p))).run prog W=.ok (.value v) W:=by
 obtain⟨b,off,cap,rfl,_⟩:=sl_open h.kids.1 (by omega);obtain⟨a,hl,hov,hget⟩:=OVs.get _ _ i hi h.all;refine⟨.agg a.toArray,⟨b,off+i*6,none⟩,hov,fun W hk=>⟨?_,?_⟩⟩
 ·have:=run_ia (P:=prog) (T:=40) (b:=b) (off:=off) (cap:=cap) (n:=o.kids.length) (k:=.i64) (i:=(i:Int)) (w:=W) Tryz.underlying40 szOb (by omega) (by omega);rw[Int.toNat_natCast] at this;exact this
 ·obtain⟨b',off',cap',he,hc⟩:=sl_open (h.kept hk).kids.1 (by omega);cases he;refine run_load_at (v:=.agg a.toArray) (AtV.agg aggOb hl fun j v hj=>?_);rw[Nat.add_assoc];exact hc _ _ (hget j v hj)
theorem key_at {A:Nat→Prop}{wb:World}{o:Ob}{vk vc:Value}{cs:List Value}(h:ObAt A wb o vk vc cs){i:Nat}(hi:i < o.keys.length) :
  ∃p,∀W,Kept A wb W→(mIA 39 vk (.int .i64 (i:Int))).run prog W=.ok (.value (.pointer (some p))) W∧(mLoad 9 (.pointer (some p))).run prog W=.ok (.value (.string ⟨o.keys[i].toArray⟩)) W:=by
 obtain⟨b,off,cap,rfl,_⟩:=sl_open h.keys.1 (by omega);refine⟨⟨b,off+i,none⟩,fun W hk=>⟨?_,?_⟩⟩
 ·have:=run_ia (P:=prog) (T:=39) (b:=b) (off:=off) (cap:=cap) (n:=o.keys.length) (k:=.i64) (i:=(i:Int)) (w:=W) Tryz.underlying39 (show _=some 1 by kernel_rfl) (by omega) (by omega);rw[Int.toNat_natCast,Nat.mul_one] at this;exact this
 ·obtain⟨b',off',cap',he,hc⟩:=sl_open (h.kept hk).keys.1 (by omega);cases he;exact run_load_cell nStr5 (hc i _ (strsV_get hi))
theorem sl_one5 {w:World}{v:Value}{sz n:Nat}{cs:List Value}(h:Sl w v sz n cs):v.oneCell'=true:=by
 obtain⟨_,a,cap,rfl,_⟩:=h;rfl
theorem strsV_one' {l:List (List UInt8)}:∀x∈strsV l,x.oneCell'=true:=by
 intro x hx;obtain⟨y,_,rfl⟩:=List.mem_map.1 hx;rfl
section
variable {w:World}{PK:PKT}{K:VWP}{S:Nat→Prop}{w0:World}{L:List Ent}
theorem o_appSs (i:Nat){v v2:Value}{xs ys:List (List UInt8)}{cs:Array Bool}(ho:OwnS S w0 w L)(hi:L[i]?=some (StrRow v xs))(hs:Sl w v2 1 ys.length (strsV ys))(hb:xs.length+ys.length≤1099511627776)
  (k:∀v' w',OwnS S w0 w' (L.set i (StrRow v' (xs++ys)))→K v' w'):DoX prog (mB .append #[39,39] 39 cs #[v,v2]) w PK K:=by
 refine o_append i Tryz.underlying39 (show elB prog 9 1 16=true by kernel_rfl) (by decide) ho hi hs strsV_one' (by omega) (by omega) fun v' w' h=>k v' w' ?_;have e:StrRow v' (xs++ys)=.row 9 1 v' (xs.length+ys.length) (strsV xs++strsV ys):=by
  rw[StrRow,List.length_append];simp[strsV]
 rw[e];exact h
theorem o_appS1 (i:Nat){v:Value}{xs:List (List UInt8)}{y:List UInt8}{cs:Array Bool}{PK2:PKT}(ho:OwnS S w0 w L)(hi:L[i]?=some (StrRow v xs))(hb:xs.length≤100000000000)
  (k:∀v' w',OwnS S w0 w' (L.set i (StrRow v' (xs++[y])))→K v' w') :
  DoX prog (mBuildS 39 1 #[(0,.string ⟨y.toArray⟩)]) w PK fun t w=>DoX prog (mB .append #[39,39] 39 cs #[v,t]) w PK2 K:=by
 refine o_new (fun b=>.slice (some ⟨b,0,none⟩) 1 1) [.string ⟨y.toArray⟩] 9 (fun _=>by kernel_rfl) ho fun nb w4 h4=>?_;refine o_appSs (i+1) h4 (by rw[List.getElem?_cons_succ];exact hi) (ys:=[y]) (h4.sl 0 rfl 1 1 1 rfl) (by simp;omega) fun v' w5 h5=>k v' w5 h5.tail
end
theorem why_fields {d:Nat}{o:Ob}(h:Vl.why d o=0):d≤24∧Vl.usesOk o=true∧¬(o.k=9∧1 < d)∧Vl.fits o=true∧o.s.length≤Vl.long o.k∧o.kids.length≤8191∧Vl.form o=true:=by
 unfold Vl.why at h;split at h
 ·cases h
 split at h
 ·cases h
 split at h
 ·cases h
 split at h
 ·cases h
 split at h
 ·cases h
 split at h
 ·cases h
 rename_i h1 h2 h3 h4 h5 h6
 rw[not_or] at h2;exact⟨by omega,by simpa using h2.1,h2.2,by simpa using h3,by omega,by omega,by simpa using h6⟩
end
section
open Eng
def S_write_single_0 (t3:Value)(w:World)(K:Ending→World→Prop):Prop:=
 DoX prog (mBuildS 39 1 #[(0,t3)]) w (pk K) fun t68 w=>
 K (.returned t68) w
def S_write_single (t0:Value)(w:World)(K:Ending→World→Prop):Prop:=
 DoX prog (mBox 42 t0) w (pk K) fun t1 w=>
 JoinX (fun J1=>
 DoX prog (mFA 42 t1 0) w (pk K) fun t8 w=>
 DoX prog (mLoad 3 t8) w (pk K) fun t9 w=>
 DoX prog (mEq .eql 3 (.tmp 9) (.const (.int .i64 0)) t9 (.int .i64 0)) w (pk K) fun t11 w=>
 IfX t11 (J1 [(.string ⟨#[110,117,108,108]⟩)] w) (DoX prog (mEq .eql 3 (.tmp 9) (.const (.int .i64 1)) t9 (.int .i64 1)) w (pk K) fun t13 w=>
 IfX t13 (DoX prog (mBuild 163 #[(0,(.string ⟨#[102,97,108,115,101]⟩)),(1,(.string ⟨#[116,114,117,101]⟩))]) w (pk K) fun t14 w=>
 DoX prog (mFA 42 t1 1) w (pk K) fun t15 w=>
 DoX prog (mLoad 2 t15) w (pk K) fun t16 w=>
 DoX prog (mIx 163 t14 t16) w (pk K) fun t17 w=>
 J1 [t17] w) (DoX prog (mEq .eql 3 (.tmp 9) (.const (.int .i64 2)) t9 (.int .i64 2)) w (pk K) fun t19 w=>
 IfX t19 (DoX prog (mFA 42 t1 1) w (pk K) fun t21 w=>
 DoX prog (mLoad 2 t21) w (pk K) fun t22 w=>
 CallX prog 158 #[t22] w (pk K) fun t23 w=>
 DoX prog (mExt t23 0) w (pk K) fun t24 w=>
 DoX prog (mExt t23 1) w (pk K) fun t25 w=>
 J1 [t24] w) (DoX prog (mEq .eql 3 (.tmp 9) (.const (.int .i64 3)) t9 (.int .i64 3)) w (pk K) fun t27 w=>
 IfX t27 (DoX prog (mFA 42 t1 1) w (pk K) fun t29 w=>
 DoX prog (mLoad 2 t29) w (pk K) fun t30 w=>
 CallX prog 159 #[t30] w (pk K) fun t31 w=>
 DoX prog (mExt t31 0) w (pk K) fun t32 w=>
 DoX prog (mExt t31 1) w (pk K) fun t33 w=>
 J1 [t32] w) (DoX prog (mEq .eql 3 (.tmp 9) (.const (.int .i64 4)) t9 (.int .i64 4)) w (pk K) fun t35 w=>
 IfX t35 (DoX prog (mFA 42 t1 3) w (pk K) fun t37 w=>
 DoX prog (mLoad 9 t37) w (pk K) fun t38 w=>
 CallX prog 160 #[t38] w (pk K) fun t39 w=>
 DoX prog (mExt t39 0) w (pk K) fun t40 w=>
 DoX prog (mExt t39 1) w (pk K) fun t41 w=>
 J1 [t40] w) (DoX prog (mEq .eql 3 (.tmp 9) (.const (.int .i64 5)) t9 (.int .i64 5)) w (pk K) fun t43 w=>
 IfX t43 (DoX prog (mFA 42 t1 3) w (pk K) fun t45 w=>
 DoX prog (mLoad 9 t45) w (pk K) fun t46 w=>
 CallX prog 55 #[t46] w (pk K) fun t47 w=>
 DoX prog (mExt t47 0) w (pk K) fun t48 w=>
 DoX prog (mExt t47 1) w (pk K) fun t49 w=>
 J1 [t48] w) (DoX prog (mEq .eql 3 (.tmp 9) (.const (.int .i64 8)) t9 (.int .i64 8)) w (pk K) fun t51 w=>
 IfX t51 (DoX prog (mFA 42 t1 1) w (pk K) fun t53 w=>
 DoX prog (mLoad 2 t53) w (pk K) fun t54 w=>
 CallX prog 158 #[t54] w (pk K) fun t55 w=>
 DoX prog (mExt t55 0) w (pk K) fun t56 w=>
 DoX prog (mExt t55 1) w (pk K) fun t57 w=>
 DoX prog (mFA 42 t1 2) w (pk K) fun t59 w=>
 DoX prog (mLoad 3 t59) w (pk K) fun t60 w=>
 CallX prog 158 #[t60] w (pk K) fun t61 w=>
 DoX prog (mExt t61 0) w (pk K) fun t62 w=>
 DoX prog (mExt t61 1) w (pk K) fun t63 w=>
 DoX prog (mBuildS 39 3 #[(0,t56),(1,t62),(2,(.string ⟨#[82]⟩))]) w (pk K) fun t66 w=>
 K (.returned t66) w) (J1 [(.string ⟨#[]⟩)] w)))))))) (fun vs1 w=>∀_:Sg,S_write_single_0 (vs1.getD 0 undef) w K)
theorem S_write_single_eq (t0:Value)(w:World)(K:Ending→World→Prop):wpX prog 69 [(19,[3])] [] none (bodyOf Tryz.f134) (topQ prog [.tmp 2] K) (startX [t0]) [] w=S_write_single t0 w K:=by kernel_rfl
theorem S_write_single_ok {t0:Value}{w:World}{K:Ending→World→Prop}(h:S_write_single t0 w K):Calls prog 134 #[t0] w K:=
 calls_of_wpX Tryz.func134 rfl rfl rfl rfl (Eq.mpr (S_write_single_eq t0 w K) h)
def S_write_parts_1_1_3 (t2 t9 t40:Value)(w:World)(N3:List Value→World→Prop)(K:Ending→World→Prop):Prop:=
 DoX prog (mLoad 62 t2) w (pk K) fun t61 w=>
 DoX prog (mLoad 42 t9) w (pk K) fun t62 w=>
 DoX prog (mCallV t61 #[t62]) w (pk K) fun t63 w=>
 DoX prog (mUn .not t63) w (pk K) fun t64 w=>
 IfX t64 (K (.returned (.bool false)) w) (DoX prog (mBin .add 3 t40 (.int .i64 1)) w (pk K) fun t65 w=>
 N3 [t65] w)
def S_write_parts_1_1_2 (t1 t2 t3 t5 t38 t39 t40:Value)(w:World)(N3:List Value→World→Prop)(K:Ending→World→Prop):Prop:=
 DoX prog (mBin .lss 3 t40 t39) w (pk K) fun t41 w=>
 IfX t41 (DoX prog (mIA 40 t38 t40) w (pk K) fun t43 w=>
 DoX prog (mLoad 42 t43) w (pk K) fun t44 w=>
 DoX prog (mAlloc 42) w (pk K) fun t9 w=>
 DoX prog (mStore 42 t9 t44) w (pk K) fun _ w=>
 JoinX (fun J4=>
 DoX prog (mFA 42 t3 0) w (pk K) fun t45 w=>
 DoX prog (mLoad 3 t45) w (pk K) fun t46 w=>
 DoX prog (mEq .eql 3 (.tmp 46) (.const (.int .i64 7)) t46 (.int .i64 7)) w (pk K) fun t47 w=>
 IfX t47 (DoX prog (mFA 42 t3 4) w (pk K) fun t49 w=>
 DoX prog (mLoad 39 t49) w (pk K) fun t50 w=>
 DoX prog (mIA 39 t50 t40) w (pk K) fun t52 w=>
 DoX prog (mLoad 9 t52) w (pk K) fun t53 w=>
 CallX prog 55 #[t53] w (pk K) fun t54 w=>
 DoX prog (mExt t54 0) w (pk K) fun t55 w=>
 DoX prog (mExt t54 1) w (pk K) fun t56 w=>
 DoX prog (mLoad 30 t1) w (pk K) fun t57 w=>
 DoX prog (mCallV t57 #[t55]) w (pk K) fun t59 w=>
 DoX prog (mUn .not t59) w (pk K) fun t60 w=>
 IfX t60 (K (.returned (.bool false)) w) (J4 [] w)) (J4 [] w)) (fun vs4 w=>∀_:Sg,S_write_parts_1_1_3 t2 t9 t40 w N3 K)) (DoX prog (mLoad 30 t1) w (pk K) fun t66 w=>
 DoX prog (mIA 163 t5 (.int .i64 1)) w (pk K) fun t67 w=>
 DoX prog (mLoad 9 t67) w (pk K) fun t68 w=>
 DoX prog (mCallV t66 #[t68]) w (pk K) fun t69 w=>
 K (.returned t69) w)
def S_write_parts_1_1_1 (t1 t2 t3 t5:Value)(w:World)(K:Ending→World→Prop):Prop:=
 DoX prog (mLoad 30 t1) w (pk K) fun t32 w=>
 DoX prog (mIA 163 t5 (.int .i64 0)) w (pk K) fun t33 w=>
 DoX prog (mLoad 9 t33) w (pk K) fun t34 w=>
 DoX prog (mCallV t32 #[t34]) w (pk K) fun t35 w=>
 DoX prog (mUn .not t35) w (pk K) fun t36 w=>
 IfX t36 (K (.returned (.bool false)) w) (DoX prog (mFA 42 t3 5) w (pk K) fun t37 w=>
 DoX prog (mLoad 40 t37) w (pk K) fun t38 w=>
 DoX prog (mB .len #[40] 3 #[false] #[t38]) w (pk K) fun t39 w=>
 LoopX [(.int .i64 0)] w (fun vs3 w N3=>∀_:Sg,S_write_parts_1_1_2 t1 t2 t3 t5 t38 t39 (vs3.getD 0 undef) w N3 K))
def S_write_parts_1_1_0 (t1 t16 t17 t18:Value)(w:World)(N2:List Value→World→Prop)(K:Ending→World→Prop):Prop:=
 DoX prog (mBin .lss 3 t18 t17) w (pk K) fun t19 w=>
 IfX t19 (DoX prog (mIA 39 t16 t18) w (pk K) fun t20 w=>
 DoX prog (mLoad 9 t20) w (pk K) fun t21 w=>
 DoX prog (mLoad 30 t1) w (pk K) fun t22 w=>
 DoX prog (mCallV t22 #[t21]) w (pk K) fun t24 w=>
 DoX prog (mUn .not t24) w (pk K) fun t25 w=>
 IfX t25 (K (.returned (.bool false)) w) (DoX prog (mBin .add 3 t18 (.int .i64 1)) w (pk K) fun t26 w=>
 N2 [t26] w)) (K (.returned (.bool true)) w)
def S_write_parts_1_1 (t0 t1 t2:Value)(w:World)(K:Ending→World→Prop):Prop:=
 DoX prog (mBox 42 t0) w (pk K) fun t3 w=>
 DoX prog (mBuild 163 #[(0,(.string ⟨#[91]⟩)),(1,(.string ⟨#[93]⟩))]) w (pk K) fun t12 w=>
 DoX prog (mAlloc 163) w (pk K) fun t5 w=>
 DoX prog (mStore 163 t5 t12) w (pk K) fun _ w=>
 JoinX (fun J1=>
 DoX prog (mFA 42 t3 0) w (pk K) fun t13 w=>
 DoX prog (mLoad 3 t13) w (pk K) fun t14 w=>
 DoX prog (mEq .eql 3 (.tmp 14) (.const (.int .i64 6)) t14 (.int .i64 6)) w (pk K) fun t28 w=>
 IfX t28 (J1 [] w) (DoX prog (mEq .eql 3 (.tmp 14) (.const (.int .i64 7)) t14 (.int .i64 7)) w (pk K) fun t30 w=>
 IfX t30 (DoX prog (mBuild 163 #[(0,(.string ⟨#[60,60]⟩)),(1,(.string ⟨#[62,62]⟩))]) w (pk K) fun t31 w=>
 DoX prog (mStore 163 t5 t31) w (pk K) fun _ w=>
 J1 [] w) (DoX prog (mLoad 42 t3) w (pk K) fun t15 w=>
 CallX prog 134 #[t15] w (pk K) fun t16 w=>
 DoX prog (mB .len #[39] 3 #[false] #[t16]) w (pk K) fun t17 w=>
 LoopX [(.int .i64 0)] w (fun vs2 w N2=>∀_:Sg,S_write_parts_1_1_0 t1 t16 t17 (vs2.getD 0 undef) w N2 K)))) (fun vs1 w=>∀_:Sg,S_write_parts_1_1_1 t1 t2 t3 t5 w K)
theorem S_write_parts_1_1_eq (t0 t1 t2:Value)(w:World)(K:Ending→World→Prop):wpX prog 70 [(13,[]),(22,[])] [(4,[18]),(16,[40])] none (bodyOf Tryz.f133) (topQ prog [.tmp 4] K) (startX [t0,t1,t2]) [] w=S_write_parts_1_1 t0 t1 t2 w K:=by kernel_rfl
theorem S_write_parts_1_1_ok {t0 t1 t2:Value}{w:World}{K:Ending→World→Prop}(h:S_write_parts_1_1 t0 t1 t2 w K):Calls prog 133 #[t0,t1,t2] w K:=
 calls_of_wpX Tryz.func133 rfl rfl rfl rfl (Eq.mpr (S_write_parts_1_1_eq t0 t1 t2 w K) h)
def S_write_parts_1 (t0 t1:Value)(w:World)(K:Ending→World→Prop):Prop:=
 DoX prog (mBox 30 t0) w (pk K) fun t2 w=>
 DoX prog (mAlloc 62) w (pk K) fun t3 w=>
 DoX prog (mFunc (.func 133) #[] #[t2,t3]) w (pk K) fun t4 w=>
 DoX prog (mStore 62 t3 t4) w (pk K) fun _ w=>
 DoX prog (mLoad 62 t3) w (pk K) fun t5 w=>
 DoX prog (mLoad 42 t1) w (pk K) fun t6 w=>
 DoX prog (mCallV t5 #[t6]) w (pk K) fun t7 w=>
 K (.returned (.tuple #[])) w
theorem S_write_parts_1_eq (t0 t1:Value)(w:World)(K:Ending→World→Prop):wpX prog 8 [] [] none (bodyOf Tryz.f132) (topQ prog [] K) (startX [t0,t1]) [] w=S_write_parts_1 t0 t1 w K:=by kernel_rfl
theorem S_write_parts_1_ok {t0 t1:Value}{w:World}{K:Ending→World→Prop}(h:S_write_parts_1 t0 t1 w K):Calls prog 132 #[t0,t1] w K:=
 calls_of_wpX Tryz.func132 rfl rfl rfl rfl (Eq.mpr (S_write_parts_1_eq t0 t1 w K) h)
def S_write_parts (t0:Value)(w:World)(K:Ending→World→Prop):Prop:=
 DoX prog (mBox 42 t0) w (pk K) fun t1 w=>
 DoX prog (mFunc (.func 132) #[] #[t1]) w (pk K) fun t3 w=>
 K (.returned t3) w
theorem S_write_parts_eq (t0:Value)(w:World)(K:Ending→World→Prop):wpX prog 4 [] [] none (bodyOf Tryz.f97) (topQ prog [.tmp 2] K) (startX [t0]) [] w=S_write_parts t0 w K:=by kernel_rfl
theorem S_write_parts_ok {t0:Value}{w:World}{K:Ending→World→Prop}(h:S_write_parts t0 w K):Calls prog 97 #[t0] w K:=
 calls_of_wpX Tryz.func97 rfl rfl rfl rfl (Eq.mpr (S_write_parts_eq t0 w K) h)
def S_slices_AppendSeq_string_string_p0 (x0:Nat)(K:Ending→World→Prop):=pdM prog [.val (.slice none 0 0)] K [(mkD x0)]
def S_slices_AppendSeq_string_string (t0 t1:Value)(w:World)(K:Ending→World→Prop):Prop:=
 DoX prog (mBox 39 t0) w (pk K) fun t2 w=>
 RangeX prog none 1 t1 w (fun l1 as1 w R1=>
 BegX prog l1 w (fun w=>
 DoX prog (mLoad 39 t2) w pkR fun t8 w=>
 DoX prog (mBuildS 39 1 #[(0,(as1.getD 0 undef))]) w pkR fun t10 w=>
 DoX prog (mB .append #[39,39] 39 #[false,false] #[t8,t10]) w pkR fun t11 w=>
 DoX prog (mStore 39 t2 t11) w pkR fun _ w=>
 EndX prog l1 none w R1))
 [(none,fun r1 w=>
 DoX prog (mLoad 39 t2) w (S_slices_AppendSeq_string_string_p0 r1 K) fun t12 w=>
 LeaveM prog [.val t12] K [(mkD r1)] .returning w)]
theorem S_slices_AppendSeq_string_string_eq (t0 t1:Value)(w:World)(K:Ending→World→Prop):wpX prog 13 [] [] none (bodyOf Tryz.f131) (topM prog [.tmp 4] K) (startX [t0,t1]) [] w=S_slices_AppendSeq_string_string t0 t1 w K:=by kernel_rfl
theorem S_slices_AppendSeq_string_string_ok {t0 t1:Value}{w:World}{K:Ending→World→Prop}(h:S_slices_AppendSeq_string_string t0 t1 w K):Calls prog 131 #[t0,t1] w K:=
 calls_of_wpM Tryz.func131 rfl rfl rfl rfl (Eq.mpr (S_slices_AppendSeq_string_string_eq t0 t1 w K) h)
def S_slices_Collect_string (t0:Value)(w:World)(K:Ending→World→Prop):Prop:=
 CallX prog 131 #[(.slice none 0 0),t0] w (pk K) fun t4 w=>
 K (.returned t4) w
theorem S_slices_Collect_string_eq (t0:Value)(w:World)(K:Ending→World→Prop):wpX prog 5 [] [] none (bodyOf Tryz.f96) (topQ prog [.tmp 2] K) (startX [t0]) [] w=S_slices_Collect_string t0 w K:=by kernel_rfl
theorem S_slices_Collect_string_ok {t0:Value}{w:World}{K:Ending→World→Prop}(h:S_slices_Collect_string t0 w K):Calls prog 96 #[t0] w K:=
 calls_of_wpX Tryz.func96 rfl rfl rfl rfl (Eq.mpr (S_slices_Collect_string_eq t0 w K) h)
def S_write_Text (t0:Value)(w:World)(K:Ending→World→Prop):Prop:=
 DoX prog (mBox 42 t0) w (pk K) fun t1 w=>
 DoX prog (mLoad 42 t1) w (pk K) fun t5 w=>
 CallX prog 50 #[t5] w (pk K) fun t6 w=>
 DoX prog (mEq .neq 24 (.tmp 7) (.const (.int .i64 0)) t6 (.int .i64 0)) w (pk K) fun t8 w=>
 IfX t8 (K (.returned (.tuple #[(.string ⟨#[]⟩),t6])) w) (DoX prog (mFA 42 t1 0) w (pk K) fun t10 w=>
 DoX prog (mLoad 3 t10) w (pk K) fun t11 w=>
 DoX prog (mEq .eql 3 (.tmp 11) (.const (.int .i64 9)) t11 (.int .i64 9)) w (pk K) fun t12 w=>
 IfX t12 (K (.returned (.tuple #[(.string ⟨#[]⟩),(.int .i64 10)])) w) (DoX prog (mLoad 42 t1) w (pk K) fun t13 w=>
 CallX prog 97 #[t13] w (pk K) fun t14 w=>
 CallX prog 96 #[t14] w (pk K) fun t15 w=>
 CallX prog 28 #[t15] w (pk K) fun t16 w=>
 K (.returned (.tuple #[t16,(.int .i64 0)])) w))
theorem S_write_Text_eq (t0:Value)(w:World)(K:Ending→World→Prop):wpX prog 17 [] [] none (bodyOf Tryz.f56) (topQ prog [.tmp 2,.tmp 3] K) (startX [t0]) [] w=S_write_Text t0 w K:=by kernel_rfl
theorem S_write_Text_ok {t0:Value}{w:World}{K:Ending→World→Prop}(h:S_write_Text t0 w K):Calls prog 56 #[t0] w K:=
 calls_of_wpX Tryz.func56 rfl rfl rfl rfl (Eq.mpr (S_write_Text_eq t0 w K) h)
end
section
open Eng Go.RowKit
section
variable {w:World}{PK:PKT}{K:VWP}{S:Nat→Prop}{w0:World}
theorem perm3 {A B C:List Ent}:(A++(B++C)).Perm (B++(A++C)):=by
 rw[←List.append_assoc,←List.append_assoc];exact List.Perm.append_right C List.perm_append_comm
theorem own_sink {A B M X:List Ent}(h:OwnS S w0 w (A++(B++(M++X)))):OwnS S w0 w (B++(M++(A++X))):=h.perm (perm3.trans (perm3.append_left _))
theorem own_float {A B M X:List Ent}(h:OwnS S w0 w (B++(M++(A++X)))):OwnS S w0 w (A++(B++(M++X))):=h.perm (perm3.trans (perm3.append_left _)).symm
theorem ia2_0 {b:Nat}:DoX prog (mIA 163 (.pointer (some ⟨b,0,none⟩)) (.int .i64 0)) w PK K=K (.pointer (some ⟨b,0,none⟩)) w:=do_eq (by kernel_rfl)
theorem ia2_1 {b:Nat}:DoX prog (mIA 163 (.pointer (some ⟨b,0,none⟩)) (.int .i64 1)) w PK K=K (.pointer (some ⟨b,1,none⟩)) w:=do_eq (by kernel_rfl)
theorem ix2_0 {x y:Value}:DoX prog (mIx 163 (.agg #[x,y]) (.int .i64 0)) w PK K=K x w:=do_eq (by kernel_rfl)
theorem ix2_1 {x y:Value}:DoX prog (mIx 163 (.agg #[x,y]) (.int .i64 1)) w PK K=K y w:=do_eq (by kernel_rfl)
end
theorem single_ret (o:Ob)(v:Value)(d:Nat)(w:World)(ht:Tb w)(hov:OV (InW w) w v o)(hc:Vl.check d o=0)(k6:o.k≠6)(k7:o.k≠7)(k9:o.k≠9) :
  Ret prog 134 #[v] w (fun v' w'=>Own w w' [StrRow v' (Wr.parts o)]):=by
 obtain⟨vk,vc,cs,rfl,ha⟩:=hov.open;obtain⟨_,huse,_,hfit,hsl,_,_⟩:=why_fields (Wr.check_why hc);refine ret_of fun K hK=>S_write_single_ok ?_;unfold S_write_single;refine o_obb o ha.keys.one ha.kids.one (Own.start w) fun b w1 ho=>?_;rw[Wr.parts_eq,if_neg k6,if_neg k7] at hK;refine join fun J hJ=>?_;have fin:∀{t:List UInt8} {W:World} {L:List Ent},Own w W L→o.k≠8→t=Wr.leaf o.k o.n o.s→J [.string ⟨t.toArray⟩] W:=by
  rintro t W L ho h8 rfl;refine hJ _ _ fun _=>?_;simp only[S_write_single_0,gd];rw[if_neg h8] at hK;refine o_new (fun b=>.slice (some ⟨b,0,none⟩) 1 1) [.string ⟨(Wr.leaf o.k o.n o.s).toArray⟩] 9 (fun _=>by kernel_rfl) ho fun nb w4 h4=>?_;exact hK _ _ ((h4.toRow 1 1 1 rfl (by omega) (by omega)).sub (.cons_cons _ (List.nil_sublist _)))
 rw[fa_o0,ob_k ho 0 rfl];simp only[rs,fa_o1,fa_o2,fa_o3,ob_n ho 0 rfl,ob_s ho 0 rfl];by_cases k0:o.k=0
 ·simp only[k0,decide_true,i_t];exact fin (t:=Wr.nul) ho (by omega) (by simp[Wr.leaf,k0])
 by_cases k1:o.k=1
 ·simp only[k1,Int.reduceEq,decide_true,decide_false,i_t,i_f];have hf:0≤o.n∧o.n≤1:=by simpa[Vl.fits,k1] using hfit
  have hb:∀{PK:PKT} {K:VWP},DoX prog (mBuild 163 #[(0,(.string ⟨#[102,97,108,115,101]⟩)),(1,(.string ⟨#[116,114,117,101]⟩))]) w1 PK K=K (.agg #[.string ⟨Wr.fal.toArray⟩,.string ⟨Wr.tru.toArray⟩]) w1:=do_eq (by kernel_rfl);rw[hb,ob_n ho 0 rfl];rcases (show o.n=0∨o.n=1 by omega) with hn|hn
  ·skip
   rw[hn,ix2_0];exact fin ho (by omega) (by simp[Wr.leaf,k1,hn])
  ·rw[hn,ix2_1];exact fin ho (by omega) (by simp[Wr.leaf,k1,hn])
 by_cases k2:o.k=2
 ·simp only[k2,Int.reduceEq,decide_true,decide_false,i_t,i_f];refine c_told (pint_ret o.n w1 (ht.own ho)) rfl ho fun w2 ho=>?_;simp only[ex];exact fin ho (by omega) (by simp[Wr.leaf,k2,Wr.num])
 by_cases k3:o.k=3
 ·simp only[k3,Int.reduceEq,decide_true,decide_false,i_t,i_f];refine c_told (preal_ret o.n w1) rfl ho fun w2 ho=>?_;simp only[ex];exact fin ho (by omega) (by simp[Wr.leaf,k3])
 by_cases k4:o.k=4
 ·simp only[k4,Int.reduceEq,decide_true,decide_false,i_t,i_f];have hl:Vl.long o.k=32767:=by rw[k4];rfl
  refine c_told (pstr_ret o.s w1 (by omega)) rfl ho fun w2 ho=>?_;simp only[ex];exact fin ho (by omega) (by simp[Wr.leaf,k4])
 by_cases k5:o.k=5
 ·simp only[k5,Int.reduceEq,decide_true,decide_false,i_t,i_f];refine c_told (pname_ret o.s w1) rfl ho fun w2 ho=>?_;simp only[ex];exact fin ho (by omega) (by simp[Wr.leaf,k5])
 have k8:o.k=8:=by
  unfold Vl.usesOk Vl.used at huse;simp only[k0,k1,k2,k3,k4,k5,k6,k7,k9,or_self,if_false] at huse;by_cases h:o.k=8
  ·exact h
  ·simp[h] at huse
 rw[if_pos k8] at hK;simp only[k8,Int.reduceEq,decide_true,decide_false,i_t,i_f];refine c_told (pint_ret o.n w1 (ht.own ho)) rfl ho fun w2 ho=>?_;simp only[ex,ob_g ho 0 rfl];refine c_told (pint_ret o.g w2 (ht.own ho)) rfl ho fun w3 ho=>?_;simp only[ex];refine o_new (fun b=>.slice (some ⟨b,0,none⟩) 3 3) [.string ⟨(Wr.num o.n).toArray⟩,.string ⟨(Wr.num o.g).toArray⟩,.string ⟨#[82]⟩] 9 (fun _=>by kernel_rfl) ho fun nb w4 h4=>?_;exact hK _ _ ((h4.toRow 1 3 3 rfl (by omega) (by omega)).sub (.cons_cons _ (List.nil_sublist _)))
end
section
open Eng Go.RowKit
def yldE (b lb:Nat):Ent:=.cells b [.func (.yield lb) #[] #[]] 30
def telV (b1 b2:Nat):Value:=.func (.func 133) #[] #[.pointer (some ⟨b1,0,none⟩),.pointer (some ⟨b2,0,none⟩)]
def telE (b1 b2:Nat):Ent:=.cells b2 [telV b1 b2] 62
def endE (b:Nat)(x y:List UInt8):Ent:=.cells b [.string ⟨x.toArray⟩,.string ⟨y.toArray⟩] 163
theorem nFs:notAgg prog 30=true:=by kernel_rfl
theorem nFo:notAgg prog 62=true:=by kernel_rfl
theorem sz2:(Tryz.prog.info? 163).map (·.size)=some 2:=by kernel_rfl
theorem tell_plain:plainB prog 133=true:=by kernel_rfl
def midTo (o:Ob)(i:Nat):List (List UInt8):=if o.k=7 then Wr.partsD (o.keys.take i) (o.kids.take i) else Wr.partsL (o.kids.take i)
theorem strs_get {ps:List (List UInt8)}{j:Nat}{x:Value}(h:(strsV ps)[j]?=some x):∃y,ps[j]?=some y∧x=.string ⟨y.toArray⟩:=by
 unfold strsV at h;rw[List.getElem?_map] at h;cases hy:ps[j]? with
|none=>rw[hy] at h;cases h
|some y=>rw[hy] at h;exact⟨y,rfl,by simpa[strV] using h.symm⟩
theorem mid_split (o:Ob)(i:Nat):∃t,midTo o o.kids.length=midTo o i++t:=by
 unfold midTo;split
 ·rw[Wr.partsD_min _ _ _ (.inr (Nat.le_refl _))];exact⟨_,Wr.partsD_split o.keys o.kids i⟩
 ·rw[List.take_length];exact⟨Wr.partsL (o.kids.drop i),by rw[←Wr.partsL_app,List.take_append_drop]⟩
theorem tell_any (A:Nat→Prop)(wb:World)(S:Nat→Prop)(w0:World)(L0:Loop)(lb df b1 b2:Nat)(R:Nat→List Ent→Prop)(vs:List Value)(Kf:World→Prop)
  (hI:∀(L:List Ent) (W:World),OwnS S w0 W L→Tb W∧Kept A wb W) (hA:∀(L:List Ent) (W:World),OwnS S w0 W L→∀b,A b→b < W.heap.size)
  (hy:∀(k:Nat) (v:Value) (M X:List Ent) (W:World),vs[k]?=some v→R k M→OwnS S w0 W (loopE L0 lb df++(M++X)) →
   Yld prog lb [v] W (fun r W'=>(r=.bool true∧∃M',R (k+1) M'∧OwnS S w0 W' (loopE L0 lb df++(M'++X)))∨(r=.bool false∧Kf W'))) (n:Nat) :
  ∀(o:Ob) (v:Value) (d:Nat) (M X:List Ent) (k:Nat) (w1:World) (K:Ending→World→Prop),o.wt≤n→OV A wb v o→o.wt≤100000000→Vl.check d o=0→1≤d→o.k≠9 →
   yldE b1 lb∈X→telE b1 b2∈X→OwnS S w0 w1 (loopE L0 lb df++(M++X))→R k M→(∀(j:Nat) (x:List UInt8),(Wr.parts o)[j]?=some x→vs[k+j]?=some (.string ⟨x.toArray⟩)) →
   (∀(M':List Ent) (W:World),R (k+(Wr.parts o).length) M'→OwnS S w0 W (loopE L0 lb df++(M'++X))→K (.returned (.bool true)) W)→(∀W,Kf W→K (.returned (.bool false)) W) →
   Calls prog 133 #[v,.pointer (some ⟨b1,0,none⟩),.pointer (some ⟨b2,0,none⟩)] w1 K:=by
 induction n with
|zero=>intro o v d M X k w1 K h;have:=o.wt_pos;omega
|succ n ih=>
 intro o v d M X k w1 K hn hov hb hc hd k9 hX1 hX2 ho hR hseg hK hKf;obtain⟨vk,vc,cs,rfl,ha⟩:=hov.open;obtain⟨hd24,_,_,_,hsl,hkl,hform⟩:=why_fields (Wr.check_why hc);have hkc:=Wr.check_kids hc
 -- the cells of the closure
 have c1:∀{A' M':List Ent} {W:World},OwnS S w0 W (A'++(loopE L0 lb df++(M'++X)))→∀{PK:PKT} {K:VWP},DoX prog (mLoad 30 (.pointer (some ⟨b1,0,none⟩))) W PK K=K (.func (.yield lb) #[] #[]) W:=fun h=>l_cell nFs (cells_cell (h.mem (e:=yldE b1 lb) (by simp[hX1])) (i:=0) rfl);have c2:∀{A' M':List Ent} {W:World},OwnS S w0 W (A'++(loopE L0 lb df++(M'++X)))→∀{PK:PKT} {K:VWP},DoX prog (mLoad 62 (.pointer (some ⟨b2,0,none⟩))) W PK K=K (telV b1 b2) W:=fun h=>l_cell nFo (cells_cell (h.mem (e:=telE b1 b2) (by simp[hX2])) (i:=0) rfl)
 -- one piece is handed out
 have give:∀(A' M':List Ent) (j:Nat) (x:List UInt8) (W:World) (PK:PKT) (K':VWP),(Wr.parts o)[j]?=some x→R (k+j) M'→OwnS S w0 W (A'++(loopE L0 lb df++(M'++X))) →
   (∀M2 W2,R (k+j+1) M2→OwnS S w0 W2 (A'++(loopE L0 lb df++(M2++X)))→K' (.bool true) W2)→(∀W2,Kf W2→K' (.bool false) W2) →
   DoX prog (mCallV (.func (.yield lb) #[] #[]) #[.string ⟨x.toArray⟩]) W PK K':=by
  intro A' M' j x W PK K' hx hR ho h1 h2;refine c_yld (hy (k+j) _ M' (A'++X) W (hseg j x hx) hR (own_sink ho)) ?_;rintro r W2 (⟨rfl,M2,hR2,ho2⟩|⟨rfl,hk⟩)
  ·exact h1 M2 W2 hR2 (own_float ho2)
  ·exact h2 W2 hk
 refine S_write_parts_1_1_ok ?_;unfold S_write_parts_1_1;refine o_obb o ha.keys.one ha.kids.one ho fun b3 w2 ho=>?_;have mb:∀{x y:List UInt8} {W:World} {PK:PKT} {K:VWP},DoX prog (mBuild 163 #[(0,.string ⟨x.toArray⟩),(1,.string ⟨y.toArray⟩)]) W PK K=K (.agg #[.string ⟨x.toArray⟩,.string ⟨y.toArray⟩]) W:=do_eq (by kernel_rfl);rw[mb (x:=[91]) (y:=[93])];refine o_new (fun b=>.pointer (some ⟨b,0,none⟩)) [.string ⟨#[]⟩,.string ⟨#[]⟩] 163 (fun _=>by kernel_rfl) ho fun b5 w3 ho=>?_;refine o_put 0 ho rfl (new:=[.string ⟨([91]:List UInt8).toArray⟩,.string ⟨([93]:List UInt8).toArray⟩]) sz2 (by simp;exact⟨rfl,rfl⟩) rfl fun w4 ho=>?_;have ho:OwnS S w0 w4 ([endE b5 [91] [93],obE b3 o vk vc]++(loopE L0 lb df++(M++X))):=ho;refine join fun J hJ=>?_
 -- behind the choice of the brackets
 have main:∀(x y:List UInt8) (W:World),OwnS S w0 W ([endE b5 x y,obE b3 o vk vc]++(loopE L0 lb df++(M++X)))→(o.k=6∨o.k=7)→Wr.parts o=[x]++(midTo o o.kids.length++[y]) →
   S_write_parts_1_1_1 (.pointer (some ⟨b1,0,none⟩)) (.pointer (some ⟨b2,0,none⟩)) (.pointer (some ⟨b3,0,none⟩)) (.pointer (some ⟨b5,0,none⟩)) W K:=by
  intro x y W ho h67 hp;unfold S_write_parts_1_1_1;have le0:∀{A':List Ent} {W:World},OwnS S w0 W (endE b5 x y::A')→∀{PK:PKT} {K:VWP},DoX prog (mLoad 9 (.pointer (some ⟨b5,0,none⟩))) W PK K=K (.string ⟨x.toArray⟩) W:=fun h=>l_cell nStr5 (h.cell 0 rfl 0 rfl);have le1:∀{A':List Ent} {W:World},OwnS S w0 W (endE b5 x y::A')→∀{PK:PKT} {K:VWP},DoX prog (mLoad 9 (.pointer (some ⟨b5,1,none⟩))) W PK K=K (.string ⟨y.toArray⟩) W:=fun h=>l_cell nStr5 (h.cell 0 rfl 1 rfl);rw[c1 ho,ia2_0,le0 ho];refine give [endE b5 x y,obE b3 o vk vc] M 0 x W _ _ (by rw[hp];rfl) hR ho ?_ (fun W2 hk=>by rw[u_not,Bool.not_false,i_t];exact hKf W2 hk);intro M2 W2 hR2 ho;rw[u_not,Bool.not_true,i_f,fa_o5,ob_kids ho 1 rfl];have lc:∀{W:World} {L:List Ent},OwnS S w0 W L→∀{PK:PKT} {K:VWP},DoX prog (mB .len #[40] 3 #[false] #[vc]) W PK K=K (.int .i64 (o.kids.length:Int)) W:=fun ho=>sl_len Tryz.underlying40 (ha.kept (hI _ _ ho).2).kids.1;rw[lc ho];have hmem:∀(i q:Nat) (z:List UInt8),(midTo o i)[q]?=some z→(Wr.parts o)[1+q]?=some z:=by
   intro i q z hz;obtain⟨t,ht⟩:=mid_split o i;rw[hp,List.getElem?_append_right (by simp),List.length_singleton,Nat.add_sub_cancel_left,ht,List.append_assoc,List.getElem?_append_left (List.getElem?_eq_some_iff.1 hz).1];exact hz
  refine loop (fun vs' w'=>∃(i:Nat) (M':List Ent),vs'=[.int .i64 i]∧i≤o.kids.length∧R (k+1+(midTo o i).length) M'∧OwnS S w0 w' ([endE b5 x y,obE b3 o vk vc]++(loopE L0 lb df++(M'++X)))) (fun vs' _=>o.kids.length - n0 vs')
   ⟨0,M2,rfl,by omega,by simpa[midTo,Wr.partsD,Wr.partsL] using hR2,ho⟩ ?_
  rintro vs' w5 ⟨i,M3,rfl,hi,hR3,ho⟩ _;simp only[S_write_parts_1_1_2,gd,rs];by_cases hlt:(i:Int) < (o.kids.length:Int)
  ·have hi':i < o.kids.length:=by omega
   simp only[hlt,decide_true,i_t];obtain⟨v,p,hv,hr⟩:=kid_at ha hi';obtain⟨r1,r2⟩:=hr w5 (hI _ _ ho).2;refine do_eq r1 |>.mpr (do_eq r2 |>.mpr ?_);obtain⟨vk',vc',cs',rfl,hkid⟩:=hv.open;refine o_oba ho fun b9 w6 ho=>?_;refine ob_put 0 hkid.keys.one hkid.kids.one ho rfl fun w7 ho=>?_;have ho:OwnS S w0 w7 ([obE b9 o.kids[i] vk' vc',endE b5 x y,obE b3 o vk vc]++(loopE L0 lb df++(M3++X))):=ho;refine join fun J2 hJ2=>?_;have hkw:=kid_wt hi'
   -- the kid,behind its key
   have kid:∀(m:Nat) (M4:List Ent) (W:World),(midTo o (i+1)).length=m+(Wr.parts o.kids[i]).length→(∀(j:Nat) (z:List UInt8),(Wr.parts o.kids[i])[j]?=some z→(Wr.parts o)[1+m+j]?=some z)→R (k+1+m) M4 →
     OwnS S w0 W ([obE b9 o.kids[i] vk' vc',endE b5 x y,obE b3 o vk vc]++(loopE L0 lb df++(M4++X)))→J2 [] W:=by
    intro m M4 W hm hsub hR4 ho;refine hJ2 _ _ fun _=>?_;unfold S_write_parts_1_1_3;rw[c2 ho,ob_v ho 0 rfl];refine c_val tell_plain ?_;refine c_any (ih o.kids[i] _ (d+1) M4 ([obE b9 o.kids[i] vk' vc',endE b5 x y,obE b3 o vk vc]++X) (k+1+m) W
     (fun e w'=>(e=.returned (.bool true)∧∃M',R (k+1+m+(Wr.parts o.kids[i]).length) M'∧OwnS S w0 w' (loopE L0 lb df++(M'++([obE b9 o.kids[i] vk' vc',endE b5 x y,obE b3 o vk vc]++X))))∨(e=.returned (.bool false)∧Kf w'))
     (by omega) hkid.ov (by omega) (hkc _ (List.getElem_mem hi')) (by omega) ?_ (by simp[hX1]) (by simp[hX2]) (own_sink ho) hR4 ?_ (fun M' W' h1 h2=>.inl ⟨rfl,M',h1,h2⟩) (fun W' h=>.inr ⟨rfl,h⟩)) ?_
    ·intro h9;have:=(why_fields (Wr.check_why (hkc _ (List.getElem_mem hi')))).2.2.1;exact this ⟨h9,by omega⟩
    ·intro j z hz;rw[show k+1+m+j=k+(1+m+j) by omega];exact hseg _ z (hsub j z hz)
    ·rintro e w8 (⟨rfl,M5,hR5,ho5⟩|⟨rfl,hk⟩)
     ·simp only[Cont];rw[u_not,Bool.not_true,i_f,b_add,wrap64_id (by omega) (by omega)];refine nextX ⟨i+1,M5,rfl,by omega,?_,(own_float ho5).tail⟩ (by simp[n0,RowKit.intOf];omega);rw[hm,←Nat.add_assoc];exact hR5
     ·simp only[Cont];rw[u_not,Bool.not_false,i_t];exact hKf w8 hk
   rw[fa_o0,ob_k ho 2 rfl];simp only[rs];by_cases k7:o.k=7
   ·have hle:o.keys.length=o.kids.length:=by
     have hf:=hform;simp only[Vl.form,k7,true_or,decide_true,Bool.not_true,Bool.false_or,Bool.and_eq_true] at hf;have:=hf.2;simp only[Vl.rising,Bool.and_eq_true,decide_eq_true_eq] at this;exact this.1
    have hik:i < o.keys.length:=by omega
    have hs:midTo o (i+1)=midTo o i++(Pl.pName o.keys[i]).1::Wr.parts o.kids[i]:=by
     unfold midTo;rw[if_pos k7,if_pos k7];exact Wr.partsD_succ o.keys o.kids i hik hi'
    simp only[k7,decide_true,i_t,fa_o4,ob_keys ho 2 rfl];obtain⟨pk',hrk⟩:=key_at ha hik;obtain⟨q1,q2⟩:=hrk w7 (hI _ _ ho).2;refine do_eq q1 |>.mpr (do_eq q2 |>.mpr ?_);refine c_ret (pname_ret o.keys[i] w7) ?_;rintro v8 w8 ⟨rfl,hb8⟩;have ho:=ho.grow hb8;simp only[ex];rw[c1 ho];refine give [obE b9 o.kids[i] vk' vc',endE b5 x y,obE b3 o vk vc] M3 (1+(midTo o i).length) (Pl.pName o.keys[i]).1 w8 _ _ (hmem (i+1) _ _ ?_) (by rw[←Nat.add_assoc];exact hR3) ho (fun M4 W4 hR4 ho4=>?_) (fun W hk=>?_)
    ·rw[hs,List.getElem?_append_right (Nat.le_refl _)];simp
    ·rw[u_not,Bool.not_true,i_f];refine kid ((midTo o i).length+1) M4 W4 ?_ ?_ ?_ ho4
     ·rw[hs];simp;omega
     ·intro j z hz;rw[Nat.add_assoc];refine hmem (i+1) _ z ?_;rw[hs,List.getElem?_append_right (by omega),show (midTo o i).length+1+j - (midTo o i).length=j+1 by omega,List.getElem?_cons_succ];exact hz
     ·rw[show k+1+((midTo o i).length+1)=k+(1+(midTo o i).length)+1 by omega];exact hR4
    ·rw[u_not,Bool.not_false,i_t];exact hKf W hk
   ·have hs:midTo o (i+1)=midTo o i++Wr.parts o.kids[i]:=by
     unfold midTo;rw[if_neg k7,if_neg k7];exact Wr.partsL_succ o.kids i hi'
    simp only[k7,decide_false,i_f];refine kid (midTo o i).length M3 w7 (by rw[hs,List.length_append]) ?_ hR3 ho;intro j z hz;rw[Nat.add_assoc];refine hmem (i+1) _ z ?_;rw[hs,List.getElem?_append_right (by omega),Nat.add_sub_cancel_left];exact hz
  ·simp only[hlt,decide_false,i_f];have hie:i=o.kids.length:=by omega
   subst hie;rw[c1 ho,ia2_1,le1 ho];refine give [endE b5 x y,obE b3 o vk vc] M3 (1+(midTo o o.kids.length).length) y w5 _ _ ?_ (by rw[←Nat.add_assoc];exact hR3) ho (fun M4 W4 hR4 ho4=>hK M4 W4 ?_ ?_) (fun W2 hk=>hKf W2 hk)
   ·rw[hp,List.getElem?_append_right (by simp),List.getElem?_append_right (by simp)];simp
   ·rw[hp];simp only[List.length_append,List.length_cons,List.length_nil];have e:k+(0+1+((midTo o o.kids.length).length+(0+1)))=k+(1+(midTo o o.kids.length).length)+1:=by omega
    rw[e];exact hR4
   ·exact ho4.tail.tail
 rw[fa_o0,ob_k ho 1 rfl];simp only[rs];by_cases k6:o.k=6
 ·simp only[k6,decide_true,i_t];refine hJ _ _ fun _=>main [91] [93] w4 ho (.inl k6) ?_;rw[Wr.parts_eq,if_neg (by omega),if_pos k6,midTo,if_neg (by omega),List.take_length];rfl
 by_cases k7:o.k=7
 ·simp only[k7,Int.reduceEq,decide_true,decide_false,i_t,i_f];rw[mb (x:=[60,60]) (y:=[62,62])];refine o_put 0 ho rfl (new:=[.string ⟨([60,60]:List UInt8).toArray⟩,.string ⟨([62,62]:List UInt8).toArray⟩]) sz2 (by simp;exact⟨rfl,rfl⟩) rfl fun w5 ho=>?_;refine hJ _ _ fun _=>main [60,60] [62,62] w5 ho (.inr k7) ?_;rw[Wr.parts_eq,if_neg (by omega),if_neg (by omega),if_pos k7,midTo,if_pos k7,Wr.partsD_min _ _ _ (.inr (Nat.le_refl _))];rfl
 simp only[k6,k7,decide_false,i_f];rw[ob_v ho 1 rfl];refine c_ret (single_ret o _ d w4 (hI _ _ ho).1 (OV.mono (hA _ _ ho) _ _ (ha.kept (hI _ _ ho).2).ov) hc k6 k7 k9) ?_;intro v5 w5 hnew;have ho:=ho.join hnew;have ho:OwnS S w0 w5 ([StrRow v5 (Wr.parts o),endE b5 [91] [93],obE b3 o vk vc]++(loopE L0 lb df++(M++X))):=ho;have hpos:0 < (Wr.parts o).length:=by rw[Wr.parts_eq,if_neg k6,if_neg k7];split<;>simp
 have hpl:=Wr.parts_len o;obtain⟨g,off,cap,rfl,_⟩:=sl_open (ho.slRow 0 rfl) hpos;rw[show DoX prog (mB .len #[39] 3 #[false] #[.slice (some ⟨g,off,none⟩) (Wr.parts o).length cap]) w5=DoX prog (mB .len #[39] 3 #[false] #[.slice (some ⟨g,off,none⟩) (Wr.parts o).length cap]) w5 from rfl,sl_len Tryz.underlying39 (ho.slRow 0 rfl)];refine loop (fun vs' w'=>∃(i:Nat) (M':List Ent),vs'=[.int .i64 i]∧i≤(Wr.parts o).length∧R (k+i) M'∧OwnS S w0 w' ([StrRow (.slice (some ⟨g,off,none⟩) (Wr.parts o).length cap) (Wr.parts o),endE b5 [91] [93],obE b3 o vk vc]++(loopE L0 lb df++(M'++X))))
  (fun vs' _=>(Wr.parts o).length - n0 vs') ⟨0,M,rfl,by omega,hR,ho⟩ ?_
 rintro vs' w6 ⟨i,M3,rfl,hi,hR3,ho⟩ _;simp only[S_write_parts_1_1_0,gd,rs];by_cases hlt:(i:Int) < ((Wr.parts o).length:Int)
 ·have hi':i < (Wr.parts o).length:=by omega
  simp only[hlt,decide_true,i_t];obtain⟨g',off',cap',he,hcl⟩:=sl_open (ho.slRow 0 rfl) hpos;cases he;refine do_eq (run_ia Tryz.underlying39 (show _=some 1 by kernel_rfl) (by omega) (by omega)) |>.mpr ?_;have hq:=hcl i _ (strsV_get hi');rw[Int.toNat_natCast,Nat.mul_one,l_cell nStr5 hq,c1 ho];refine give [StrRow (.slice (some ⟨g,off,none⟩) (Wr.parts o).length cap) (Wr.parts o),endE b5 [91] [93],obE b3 o vk vc] M3 i (Wr.parts o)[i] w6 _ _ (List.getElem?_eq_getElem hi') hR3 ho (fun M4 W4 hR4 ho4=>?_) (fun W hk=>?_)
  ·rw[u_not,Bool.not_true,i_f,wrap64_id (by omega) (by omega)];exact nextX ⟨i+1,M4,rfl,by omega,hR4,ho4⟩ (by simp[n0,RowKit.intOf];omega)
  ·rw[u_not,Bool.not_false,i_t];exact hKf W hk
 ·simp only[hlt,decide_false,i_f];have hie:i=(Wr.parts o).length:=by omega
  subst hie;exact hK M3 w6 hR3 ho.tail.tail.tail
end
section
open Eng Go.RowKit
def Obw (wb:World)(W:World):Prop:=Tb W∧Kept (InW wb) wb W∧wb.heap.size≤W.heap.size
theorem parts_seq (wb:World)(o:Ob)(vk vc:Value)(cs:List Value)(b:Nat)(ha:ObAt (InW wb) wb o vk vc cs)(hb:o.wt≤100000000)(hc:Vl.check 1 o=0)(k9:o.k≠9) :
  Seq prog (Obw wb) 132 #[] #[.pointer (some ⟨b,0,none⟩)] [obE b o vk vc] (strsV (Wr.parts o)):=by
 intro S w0 w1 L0 lb df M0 R K hI ho hR hy hend;show Calls prog 132 #[.func (.yield lb) #[] #[],.pointer (some ⟨b,0,none⟩)] w1 K;refine S_write_parts_1_ok ?_;unfold S_write_parts_1;refine o_new (fun b=>.pointer (some ⟨b,0,none⟩)) [.func (.yield lb) #[] #[]] 30 (fun _=>by kernel_rfl) ho fun b1 w2 ho=>?_;refine o_new (fun b=>.pointer (some ⟨b,0,none⟩)) [.nilFunc] 62 (fun _=>by kernel_rfl) ho fun b2 w3 ho=>?_;rw[m_func];refine o_store 0 ho rfl (by kernel_rfl) rfl (by simp) fun w4 ho=>?_;have ho:OwnS S w0 w4 ([telE b1 b2,yldE b1 lb]++(loopE L0 lb df++(M0++[obE b o vk vc]))):=ho;rw[l_cell nFo (ho.cell 0 rfl 0 rfl),l_at ((show (Ent.cells b (obC o vk vc) 42).is w4 from ho.mem (by simp[obE])) |> fun h=>AtV.agg aggOb rfl fun j v hj=>by simpa using cells_cell h hj)];refine c_val tell_plain ?_;refine c_any (tell_any (InW wb) wb S w0 L0 lb df b1 b2 R (strsV (Wr.parts o)) (fun W=>K (.returned (.tuple #[])) W) (fun L W h=>⟨(hI L W h).1,(hI L W h).2.1⟩) (fun L W h b hb=>Nat.lt_of_lt_of_le hb (hI L W h).2.2) hy o.wt o _ 1 M0 ([telE b1 b2,yldE b1 lb]++[obE b o vk vc]) 0 w4
  (fun e w'=>(e=.returned (.bool true)∧∃M',R (0+(Wr.parts o).length) M'∧OwnS S w0 w' (loopE L0 lb df++(M'++([telE b1 b2,yldE b1 lb]++[obE b o vk vc]))))∨(e=.returned (.bool false)∧K (.returned (.tuple #[])) w'))
  (Nat.le_refl _) ha.ov hb hc (by omega) k9 (by simp) (by simp) (own_sink ho) hR ?_ (fun M' W' h1 h2=>.inl ⟨rfl,M',h1,h2⟩) (fun W' h=>.inr ⟨rfl,h⟩)) ?_
 ·intro j x hx;rw[Nat.zero_add];unfold strsV;rw[List.getElem?_map,hx];rfl
 ·rintro e w8 (⟨rfl,M5,hR5,ho5⟩|⟨rfl,hk⟩)
  ·simp only[Cont];refine hend M5 _ w8 ?_ ho5;rw[strsV_length,←Nat.zero_add (Wr.parts o).length];exact hR5
  ·exact hk
def slc7 (b:Nat)(v:Value):Ent:=.cells b [v] 39
theorem collectS_ret {I:World→Prop}{f:Nat}{fa ca:Array Value}{F:List Ent}{ns:List (List UInt8)}(hseq:Seq prog I f fa ca F (strsV ns))(hp:plainB prog f=true)(hl:ns.length≤100000000000)
  {S:Nat→Prop} {w0 w:World} {L:List Ent} (hI:∀(L:List Ent) (W:World),OwnS S w0 W L→I W) (ho:OwnS S w0 w (F++L)) :
  Ret prog 96 #[.func (.func f) fa ca] w (fun v w'=>OwnS S w0 w' (StrRow v ns::L)):=by
 refine ret_of fun K hK=>S_slices_Collect_string_ok ?_;unfold S_slices_Collect_string;refine c_any (S_slices_AppendSeq_string_string_ok (K:=RetK fun v w'=>OwnS S w0 w' (StrRow v ns::L)) ?_) (fun e w' ⟨v,he,hv⟩=>by subst he;exact hK _ _ hv);unfold S_slices_AppendSeq_string_string;have ho:=ho.nilRow 9 1;refine o_new (fun b=>.pointer (some ⟨b,0,none⟩)) [.slice none 0 0] 39 (fun _=>by kernel_rfl) ho fun b2 w1 ho=>?_;refine range ho hp fun L0 df lb w2 ho hy=>?_;refine hseq S w0 w2 L0 lb df (slc7 b2 (.slice none 0 0)::StrRow (.slice none 0 0) []::L) (fun k M=>∃v,M=slc7 b2 v::StrRow v (ns.take k)::L) _ hI ?_ ⟨.slice none 0 0,by rw[List.take_zero]⟩ ?_ ?_
 ·refine ho.perm ?_;show List.Perm (_::_::_::_::(F++L)) (_::_::_::_::(L++F));exact (List.Perm.cons _ (List.Perm.cons _ (List.Perm.cons _ (List.Perm.cons _ List.perm_append_comm))))
 ·rintro k v M X W hk ⟨u,rfl⟩ ho;obtain⟨x,hx,rfl⟩:=strs_get hk;have hkl:k < ns.length:=(List.getElem?_eq_some_iff.1 hx).1;have ho:OwnS S w0 W (.obj lb (lp L0 .ready none)::.obj df (.deferred (some []))::slc7 b2 u::StrRow u (ns.take k)::(L++X)):=ho;refine hy _ W _ (ho.at_ 0 rfl) rfl ?_;refine o_beg 0 ho rfl fun W3 ho=>?_;rw[l_cell nSlS5 (ho.cell 2 rfl 0 rfl)];refine o_appS1 3 ho rfl (by rw[List.length_take];omega) fun v' W4 ho=>?_;refine o_store 2 ho rfl (by kernel_rfl) (sl_one5 (ho.slRow 3 rfl)) (by simp) fun W5 ho=>?_;refine o_end 0 ho rfl fun W6 ho=>?_;refine .inl ⟨rfl,slc7 b2 v'::StrRow v' (ns.take (k+1))::L,⟨v',rfl⟩,?_⟩;have e:ns.take (k+1)=ns.take k++[x]:=by
   rw[List.take_succ_eq_append_getElem hkl,(List.getElem?_eq_some_iff.1 hx).2]
  rw[e];exact ho
 ·rintro M X W ⟨u,rfl⟩ ho;rw[strsV_length,List.take_length] at ho;refine⟨_,.ready,none,_,rfl,(by intro h;cases h),ho.at_ 0 rfl,List.mem_cons.2 (.inl rfl),?_⟩;have hp':OwnS S w0 (putO W lb (lp L0 .exhausted none)) (.obj lb (lp L0 .exhausted none)::.obj df (.deferred (some []))::slc7 b2 u::StrRow u ns::(L++X)):=put_iter (o':=lp L0 .exhausted none) ho 0 rfl;have hp':OwnS S w0 (putO W lb (lp L0 .exhausted none)) (.obj df (.deferred (some []))::slc7 b2 u::StrRow u ns::(L++X)):=hp'.tail;rw[l_cell nSlS5 (hp'.cell 1 rfl 0 rfl)];refine leave1 0 hp' rfl fun W4 ho=>?_;show RetK (fun v w'=>OwnS S w0 w' (StrRow v ns::L)) (.returned u) W4;refine retK ?_;exact ho.tail.tail.sub (.cons_cons _ (List.sublist_append_left _ _))
def txtV (x:List UInt8×Int):Value:=.tuple #[.string ⟨x.1.toArray⟩,.int .i64 x.2]
theorem parts_plain:plainB prog 132=true:=by kernel_rfl
theorem n_err {xo yo:Operand}{a b:Int}{w:World}{PK:PKT}{K:VWP}:DoX prog (mEq .neq 24 xo yo (.int .i64 a) (.int .i64 b)) w PK K=K (.bool (decide (a≠b))) w:=n_int
theorem wtext7_ret (o:Ob)(v:Value)(w:World)(ht:Tb w)(hov:OV (InW w) w v o)(hb:o.wt≤100000000):Ret prog 56 #[v] w (fun v w'=>v=txtV (Wr.text o)∧Below w.heap.size w w'):=by
 obtain⟨vk,vc,cs,rfl,ha⟩:=hov.open;refine ret_of fun K hK=>S_write_Text_ok ?_;unfold S_write_Text;refine o_obb o ha.keys.one ha.kids.one (Own.start w) fun b w1 ho=>?_;rw[ob_v ho 0 rfl];refine c_told (vCheck_ret o _ w1 (ha.in_ ho).ov (by omega)) rfl ho fun w2 ho=>?_;rw[n_err];by_cases hc:Vl.check 1 o=0
 case neg=>
  simp only[ne_eq,hc,not_false_eq_true,decide_true,i_t];refine hK _ _ ⟨?_,ho.done⟩;simp[Wr.text,hc,txtV]
 simp only[hc,ne_eq,not_true,decide_false,i_f];rw[fa_o0,ob_k ho 0 rfl];simp only[rs];by_cases k9:o.k=9
 ·simp only[k9,decide_true,i_t];refine hK _ _ ⟨?_,ho.done⟩;simp[Wr.text,hc,k9,txtV]
 simp only[k9,decide_false,i_f];rw[ob_v ho 0 rfl];have ha2:=ha.own ho;refine c_any (S_write_parts_ok (K:=RetK fun v w'=>∃b,v=.func (.func 132) #[] #[.pointer (some ⟨b,0,none⟩)]∧Own w w' [obE b o vk vc]) ?_) ?_
 ·unfold S_write_parts;refine o_obb o ha.keys.one ha.kids.one ho fun b' w3 ho=>?_;rw[m_func];exact⟨_,rfl,b',rfl,ho.sub (.cons_cons _ (List.nil_sublist _))⟩
 ·rintro e w3 ⟨_,rfl,b',rfl,ho⟩;have hpl:=Wr.parts_len o;have hpt:=Wr.parts_tot o;refine c_ret (collectS_ret (S:=NoB) (w0:=w) (L:=[]) (parts_seq w o vk vc cs b' ha hb hc k9) parts_plain (by omega) (fun L W h=>⟨ht.own h,OwnS.keptIn h,h.size⟩) (by simpa using ho)) ?_;intro v4 w4 ho;refine c_told (pjoin_ret (Wr.parts o) v4 w4 (ho.slRow 0 rfl) (by omega)) rfl ho fun w5 ho=>?_;refine hK _ _ ⟨?_,ho.done⟩;simp[Wr.text,hc,k9,txtV]
end
end Go.Proofs.YtoofficgclghoaaGreatDoor

namespace Go.Proofs.YtoofficgclghoaaGreatDoor
section
open Eng Go.RowKit
abbrev nilS:Value:=.slice none 0 0
abbrev ob1 (k n g:Int)(s:List UInt8):Ob:=.mk k n g s [] []
theorem ov_plain {A:Nat→Prop}{w:World}(k n g:Int)(s:List UInt8):OV A w (obV (ob1 k n g s) nilS nilS) (ob1 k n g s):=ObAt.ov (cs:=[]) ⟨SlA.nil _ _ _ _,SlA.nil _ _ _ _,OVs.nil⟩
theorem ovs_cons {A:Nat→Prop}{w:World}{o:Ob}{vk vc:Value}{rest:List Value}{os:List Ob}(h:OV A w (obV o vk vc) o)(hr:OVs A w rest os):OVs A w (obC o vk vc++rest) (o::os):=by
 rw[OVs];exact⟨obC o vk vc,rest,rfl,rfl,h,hr⟩
section
variable {w:World}{S:Nat→Prop}{w0:World}{L:List Ent}
theorem ret_ob {K:Ending→World→Prop}{b:Nat}{o:Ob}{vk vc:Value}(ho:OwnS S w0 w (obE b o vk vc::L))(k:K (.returned (obV o vk vc)) w):RetX prog [.cell (.pointer (some ⟨b,0,none⟩)) 42] w K:=ret_v1 (rv_cell (ho.agg 0 rfl aggOb)) k
end
def obR (o:Ob)(vk vc:Value)(w:World):VWP:=fun v w'=>v=obV o vk vc∧Below w.heap.size w w'
end
end Go.Proofs.YtoofficgclghoaaGreatDoor



namespace Go.Proofs.YtoofficgclghoaaGreatDoor
section
open Eng Go.RowKit Go.ChangeShapes Go.WideShapes Go.ChangeAt
set_option maxRecDepth 100000
section
variable {H:Type}{enc:TypeId×Value→H}{W:World}{sp:Nat→Bool}{held:Bool}
theorem ovs_of {A:Nat→Prop}{w:World}:∀{cs:List Value} {os:List Ob},Rws (fun cs o=>OV A w (.agg cs.toArray) o∧cs.length=6) cs os→OVs A w cs os
|_,_,.nil=>OVs.nil
|_,_,.cons (a:=a) (rest:=rest) h t=>by
  rw[OVs];exact⟨a,rest,rfl,h.2,h.1,ovs_of t⟩
theorem wts_sum:∀os:List Ob,Ob.wts os=(os.map Ob.wt).sum
|[]=>by rw[Ob.wts];rfl
|o::os=>by rw[Ob.wts,List.map_cons,List.sum_cons,wts_sum os]
theorem bulk1 {d:DataW H}(hk:Rows.uptoSmall H [d]=true):Rows.uptoBulk d≤1048576:=by
 have h:Rows.uptoBulkAll [d]≤1048576:=of_decide_eq_true hk;simp only[Rows.uptoBulkAll] at h;omega
end
end
section
open Go
namespace Vl
theorem less_lt (a b:List UInt8):less a b=true↔a < b:=by rw[less,bytesLess_eq,decide_eq_true_eq]
theorem less_trans {a b c:List UInt8}(h:less a b=true)(k:less b c=true):less a c=true:=by
 rw[less_lt] at *;exact List.lt_trans h k
theorem less_irrefl (a:List UInt8):less a a=false:=by
 cases h:less a a with
|false=>rfl
|true=>rw[less_lt] at h;exact absurd h (List.lt_irrefl _)
theorem less_total {a b:List UInt8}(h:less a b=false)(h':a≠b):less b a=true:=by
 have h1:¬a < b:=by rw[←less_lt,h];simp
 rw[less_lt];rcases Classical.em (b < a) with h2|h2
 ·exact h2
 ·exact absurd (List.le_antisymm (List.not_lt.1 h2) (List.not_lt.1 h1)) h'
def Rise (l:List (List UInt8)):Prop:=l.Pairwise fun a b=>less a b=true
def place (l:List (List UInt8))(x:List UInt8):Nat:=(l.takeWhile fun k=>less k x).length
def hit (l:List (List UInt8))(x:List UInt8):Bool:=decide (l[place l x]?=some x)
theorem takeWhile_at {α:Type}{p:α→Bool}:∀(l:List α) (i:Nat),i≤l.length→(∀m (h:m < l.length),m < i→p l[m]=true)→(∀h:i < l.length,p l[i]=false)→(l.takeWhile p).length=i
|[],i,hi,_,_=>by simp at hi;simp[hi]
|a::l,0,_,_,h=>by
  have:=h (by simp);rw[List.getElem_cons_zero] at this;simp[List.takeWhile_cons,this]
|a::l,i+1,hi,h1,h2=>by
  have h0:=h1 0 (by simp) (by omega);rw[List.getElem_cons_zero] at h0;rw[List.takeWhile_cons,h0];simp only[if_true,List.length_cons];rw[takeWhile_at l i (by simpa using hi) (fun m hm hmi=>by
   have:=h1 (m+1) (by simpa using hm) (by omega)
   rwa [List.getElem_cons_succ] at this) (fun h=>by
   have:=h2 (by simpa using h)
   rwa [List.getElem_cons_succ] at this)]
theorem place_le (l:List (List UInt8))(x:List UInt8):place l x≤l.length:=(List.takeWhile_prefix _).length_le
theorem place_at {l:List (List UInt8)}{x:List UInt8}{i:Nat}(hi:i≤l.length)(h1:∀m (h:m < l.length),m < i→less l[m] x=true)(h2:∀h:i < l.length,less l[i] x=false):place l x=i:=takeWhile_at l i hi h1 h2
theorem place_lt {l:List (List UInt8)}{x:List UInt8}{m:Nat}(h:m < place l x):less (l[m]'(Nat.lt_of_lt_of_le h (place_le l x))) x=true:=by
 unfold place at h;have hm:=List.all_takeWhile (l:=l) (p:=fun k=>less k x);have h1:(l.takeWhile fun k=>less k x)[m]∈l.takeWhile fun k=>less k x:=List.getElem_mem h;have h2:=List.all_eq_true.1 hm _ h1;have h3:(l.takeWhile fun k=>less k x)[m]=l[m]'(Nat.lt_of_lt_of_le h (place_le l x)):=by
  have hp:(l.takeWhile fun k=>less k x) <+: l:=List.takeWhile_prefix _;exact hp.getElem h
 rw[h3] at h2;exact h2
theorem place_ge {l:List (List UInt8)}{x:List UInt8}(h:place l x < l.length):less l[place l x] x=false:=by
 unfold place at h ⊢
 induction l with
|nil=>simp at h
|cons a l ih=>
  cases ha:less a x with
 |false=>simp only[List.takeWhile_cons,ha];simpa using ha
 |true=>
   simp only[List.takeWhile_cons,ha,if_true,List.length_cons] at h ⊢;rw[List.getElem_cons_succ];exact ih (by simpa using h)
theorem rise_get {l:List (List UInt8)}(h:Rise l){i j:Nat}(hij:i < j)(hj:j < l.length):less (l[i]'(by omega)) l[j]=true:=List.pairwise_iff_getElem.1 h i j (by omega) hj hij
def ob0:Ob:=.mk 0 0 0 [] [] []
def put (o:Ob)(key:List UInt8)(v:Ob):Ob:=
 .mk o.k o.n o.g o.s (o.keys.take (place o.keys key)++key::o.keys.drop (place o.keys key+if hit o.keys key then 1 else 0)) (o.kids.take (place o.keys key)++v::o.kids.drop (place o.keys key+if hit o.keys key then 1 else 0))
end Vl
end
section
open Go
namespace Vl
theorem tot_split (l:List (List UInt8))(i:Nat):Pl.tot (l.take i)+Pl.tot (l.drop i)=Pl.tot l:=by
 rw[←Pl.tot_append,List.take_append_drop]
theorem wts_app:∀a b:List Ob,Ob.wts (a++b)=Ob.wts a+Ob.wts b
|[],b=>by rw[List.nil_append,Ob.wts];omega
|o::a,b=>by rw[List.cons_append,Ob.wts,Ob.wts,wts_app a b];omega
theorem wts_split (l:List Ob)(i:Nat):Ob.wts (l.take i)+Ob.wts (l.drop i)=Ob.wts l:=by
 rw[←wts_app,List.take_append_drop]
theorem drop_tot (l:List (List UInt8))(i j:Nat)(h:i≤j):Pl.tot (l.drop j)≤Pl.tot (l.drop i):=by
 have:=tot_split (l.drop i) (j - i);rw[List.drop_drop,show i+(j - i)=j by omega] at this;omega
theorem drop_wts (l:List Ob)(i j:Nat)(h:i≤j):Ob.wts (l.drop j)≤Ob.wts (l.drop i):=by
 have:=wts_split (l.drop i) (j - i);rw[List.drop_drop,show i+(j - i)=j by omega] at this;omega
theorem wt_eq (o:Ob):o.wt=6+o.s.length+Pl.tot o.keys+Ob.wts o.kids:=by cases o;rw[Ob.wt];rfl
theorem put_wt (o:Ob)(key:List UInt8)(v:Ob):(put o key v).wt≤o.wt+(key.length+1)+v.wt:=by
 rw[wt_eq (put o key v),wt_eq o];rw[show (put o key v).s=o.s from rfl,show (put o key v).keys=o.keys.take (place o.keys key)++key::o.keys.drop (place o.keys key+if hit o.keys key then 1 else 0) from rfl,
  show (put o key v).kids=o.kids.take (place o.keys key)++v::o.kids.drop (place o.keys key+if hit o.keys key then 1 else 0) from rfl]
 rw[Pl.tot_append,wts_app];have h1:=tot_split o.keys (place o.keys key);have h2:=drop_tot o.keys (place o.keys key) (place o.keys key+if hit o.keys key then 1 else 0) (by omega);have h3:=wts_split o.kids (place o.keys key);have h4:=drop_wts o.kids (place o.keys key) (place o.keys key+if hit o.keys key then 1 else 0) (by omega);have h5:∀l,Pl.tot (key::l)=key.length+1+Pl.tot l:=fun l=>by simp[Pl.tot]
 rw[h5,Ob.wts];omega
end Vl
end
section
open Go
namespace Vl
theorem rise_put {o:Ob}{key:List UInt8}{v:Ob}(h:Rise o.keys)(hl:o.keys.length=o.kids.length):Rise (put o key v).keys∧(put o key v).keys.length=(put o key v).kids.length:=by
 have hp:=place_le o.keys key;refine⟨?_,?_⟩
 ·show Rise (o.keys.take (place o.keys key)++key::o.keys.drop (place o.keys key+if hit o.keys key then 1 else 0));have hlo:∀x∈o.keys.take (place o.keys key),less x key=true:=by
   intro x hx;obtain⟨m,hm,rfl⟩:=List.getElem_of_mem hx;rw[List.length_take] at hm;rw[List.getElem_take];exact place_lt (by omega)
  have hhi:∀x∈o.keys.drop (place o.keys key+if hit o.keys key then 1 else 0),less key x=true:=by
   intro x hx;cases hh:hit o.keys key with
  |true=>
    rw[hh] at hx;obtain⟨m,hm,rfl⟩:=List.getElem_of_mem hx;simp only[if_true,List.length_drop] at hm;have hi:o.keys[place o.keys key]?=some key:=of_decide_eq_true hh;have hg:o.keys[place o.keys key]=key:=(List.getElem?_eq_some_iff.1 hi).2;have:=rise_get h (i:=place o.keys key) (j:=place o.keys key+1+m) (by omega) (by omega);rw[hg] at this;simpa using this
  |false=>
    rw[hh] at hx;obtain⟨m,hm,rfl⟩:=List.getElem_of_mem hx;simp only[Bool.false_eq_true,if_false,List.length_drop] at hm;have hlt:place o.keys key < o.keys.length:=by omega
    have hge:=place_ge hlt;have hne:o.keys[place o.keys key]≠key:=by
     intro e;unfold hit at hh;rw[List.getElem?_eq_getElem hlt,e] at hh;simp at hh
    have hk:=less_total hge hne;rcases Nat.eq_zero_or_pos m with h0|h0
    ·subst h0;simpa using hk
    ·have:=rise_get h (i:=place o.keys key) (j:=place o.keys key+m) (by omega) (by omega);simpa using less_trans hk this
  refine List.pairwise_append.2 ⟨h.sublist (List.take_sublist _ _),List.pairwise_cons.2 ⟨hhi,h.sublist (List.drop_sublist _ _)⟩,fun a ha b hb=>?_⟩;rcases List.mem_cons.1 hb with rfl|hb
  ·exact hlo a ha
  ·exact less_trans (hlo a ha) (hhi b hb)
 ·show (o.keys.take (place o.keys key)++key::o.keys.drop (place o.keys key+if hit o.keys key then 1 else 0)).length=(o.kids.take (place o.keys key)++v::o.kids.drop (place o.keys key+if hit o.keys key then 1 else 0)).length;simp only[List.length_append,List.length_take,List.length_cons,List.length_drop];omega
end Vl
end
section
open Go
namespace Ps
open Lx (next Tok)
abbrev R:=Ob×Int×Int
def bad (e:Int):R:=(Vl.ob0,0,e)
def tru:List UInt8:=[116,114,117,101]
def fal:List UInt8:=[102,97,108,115,101]
def nul:List UInt8:=[110,117,108,108]
def begins (t:Tok):Bool:=
 if t.k=6 then decide (t.s=[91])||decide (t.s=[60,60]) else !decide (t.k=0)&&(!decide (t.k=5)||decide (t.s=tru)||decide (t.s=fal)||decide (t.s=nul))
def ref (s:List UInt8)(t:Tok):Option (Int×Int):=
 if t.n < 1∨8191 < t.n then none
 else if (next s t.t).2≠0∨(next s t.t).1.k≠1∨(next s t.t).1.n < 0∨65535 < (next s t.t).1.n then none
 else if (next s (next s t.t).1.t).2=0∧(next s (next s t.t).1.t).1.k=5∧(next s (next s t.t).1.t).1.s=[82] then some ((next s t.t).1.n,(next s (next s t.t).1.t).1.t)
 else none
def leaf (s:List UInt8)(t:Tok):R:=
 if t.k=1 then match ref s t with
 |some p=>(.mk 8 t.n p.1 [] [] [],p.2,0)
 |none=>(.mk 2 t.n 0 [] [] [],t.t,0)
 else if t.k=2 then (.mk 3 t.n 0 [] [] [],t.t,0)
 else if t.k=3 then (.mk 4 0 0 t.s [] [],t.t,0)
 else if t.k=4 then (.mk 5 0 0 t.s [] [],t.t,0)
 else if t.s=nul then (Vl.ob0,t.t,0)
 else (.mk 1 (if t.s=tru then 1 else 0) 0 [] [] [],t.t,0)
def arr (s:List UInt8)(ok:Bool)(sub:Int→R):Nat→Int→List Ob→R
|0,_,_=>bad 99
|m+1,at_,acc=>
  if (next s at_).2=0∧(next s at_).1.k=6∧(next s at_).1.s=[93] then (.mk 6 0 0 [] [] acc,(next s at_).1.t,0)
  else if (next s at_).2=0∧acc.length=8191∧begins (next s at_).1=true∧ok=true then bad 6
  else if (next s at_).2≠0 then bad (next s at_).2
  else if (sub at_).2.2≠0 then bad (sub at_).2.2
  else arr s ok sub m (sub at_).2.1 (acc++[(sub at_).1])
def join (o:Ob)(k:List UInt8)(v:Ob):Ob:=if v.k≠0 then Vl.put o k v else o
def dict (s:List UInt8)(sub:Int→R):Nat→Int→Ob→List (List UInt8)→R
|0,_,_,_=>bad 99
|m+1,at_,o,met=>
  if (next s at_).2≠0 then bad (next s at_).2
  else if (next s at_).1.k=6∧(next s at_).1.s=[62,62] then (o,(next s at_).1.t,0)
  else if (next s at_).1.k=0 then bad 4
  else if (next s at_).1.k≠4 then bad 3
  else if (next s at_).1.s∈met then bad 9
  else if met.length=8191 then bad 6
  else if (sub (next s at_).1.t).2.2≠0 then bad (sub (next s at_).1.t).2.2
  else dict s sub m (sub (next s at_).1.t).2.1 (join o (next s at_).1.s (sub (next s at_).1.t).1) (met++[(next s at_).1.s])
def dict0:Ob:=.mk 7 0 0 [] [] []
def obj (s:List UInt8):Nat→Int→R
|n,at_=>
  if (next s at_).2≠0 then bad (next s at_).2
  else if (next s at_).1.k=0 then bad 4
  else if begins (next s at_).1=false then bad 3
  else match n with
  |0=>bad 7
  |n+1=>
    if (next s at_).1.k≠6 then leaf s (next s at_).1
    else if (next s at_).1.s=[91] then arr s (decide (n≠0)) (obj s n) (s.length+1) (next s at_).1.t []
    else dict s (obj s n) (s.length+1) (next s at_).1.t dict0 []
def object (s:List UInt8)(at_:Int):R:=if at_ < 0∨(s.length:Int) < at_ then bad 1 else obj s 24 at_
theorem ref_bd {s:List UInt8}{t:Tok}{p:Int×Int}(h:ref s t=some p):t.t < p.2∧p.2≤s.length∧1≤t.n∧t.n≤8191∧0≤p.1∧p.1≤65535:=by
 unfold ref at h;split at h
 ·cases h
 rename_i h0
 split at h
 ·cases h
 rename_i h1
 split at h
 ·rename_i h2
  simp only[not_or,Classical.not_not] at h1;cases h;have b1:=Lx.next_bd h1.1 (by rw[h1.2.1];decide);have b2:=Lx.next_bd h2.1 (by rw[h2.2.1];decide);have:=Lx.skip_ge s t.t.toNat;have:=Lx.skip_ge s (next s t.t).1.t.toNat;simp only;omega
 ·cases h
theorem leaf_bd {s:List UInt8}{at_:Int}(h0:(next s at_).2=0)(hk:(next s at_).1.k≠0):(leaf s (next s at_).1).2.2=0∧at_ < (leaf s (next s at_).1).2.1∧(leaf s (next s at_).1).2.1≤s.length:=by
 have b:=Lx.next_bd h0 hk;have:=Lx.skip_ge s at_.toNat;unfold leaf;split
 ·cases hr:ref s (next s at_).1 with
 |some p=>
   have:=ref_bd hr;exact⟨rfl,by show at_ < p.2;omega,by show p.2≤_;omega⟩
 |none=>exact⟨rfl,by show at_ < (next s at_).1.t;omega,b.2.2.2.2⟩
 all_goals (repeat' split)<;>exact⟨rfl,by show at_ < (next s at_).1.t;omega,b.2.2.2.2⟩
def Good (s:List UInt8)(sub:Int→R):Prop:=∀a,(sub a).2.2=0→a < (sub a).2.1∧(sub a).2.1≤s.length
theorem arr_bd {s:List UInt8}{ok:Bool}{sub:Int→R}(hg:Good s sub):∀(m:Nat) (a:Int) (acc:List Ob),(arr s ok sub m a acc).2.2=0→a < (arr s ok sub m a acc).2.1∧(arr s ok sub m a acc).2.1≤s.length
|0,a,acc,h=>by simp[arr,bad] at h
|m+1,a,acc,h=>by
  rw[arr] at h ⊢;split at h
  ·rename_i h1
   rw[if_pos h1];have b:=Lx.next_bd h1.1 (by rw[h1.2.1];decide);have:=Lx.skip_ge s a.toNat;exact⟨by show a < (next s a).1.t;omega,b.2.2.2.2⟩
  rename_i h1
  rw[if_neg h1];split at h
  ·simp[bad] at h
  rename_i h2
  rw[if_neg h2];split at h
  ·rename_i h3;exact absurd h h3
  rename_i h3
  rw[if_neg h3];split at h
  ·rename_i h4;exact absurd h h4
  rename_i h4
  rw[if_neg h4];have b:=hg a (Classical.not_not.1 h4);have c:=arr_bd hg m _ _ h;exact⟨by omega,c.2⟩
theorem dict_bd {s:List UInt8}{sub:Int→R}(hg:Good s sub):∀(m:Nat) (a:Int) (o:Ob) (met:List (List UInt8)),(dict s sub m a o met).2.2=0→a < (dict s sub m a o met).2.1∧(dict s sub m a o met).2.1≤s.length
|0,a,o,met,h=>by simp[dict,bad] at h
|m+1,a,o,met,h=>by
  rw[dict] at h ⊢;split at h
  ·rename_i h1;exact absurd h h1
  rename_i h1
  rw[if_neg h1];have h1:=Classical.not_not.1 h1;split at h
  ·rename_i h2
   rw[if_pos h2];have b:=Lx.next_bd h1 (by rw[h2.1];decide);have:=Lx.skip_ge s a.toNat;exact⟨by show a < (next s a).1.t;omega,b.2.2.2.2⟩
  rename_i h2
  rw[if_neg h2];split at h
  ·simp[bad] at h
  rename_i h3
  rw[if_neg h3];split at h
  ·simp[bad] at h
  rename_i h4
  rw[if_neg h4];split at h
  ·simp[bad] at h
  rename_i h5
  rw[if_neg h5];split at h
  ·simp[bad] at h
  rename_i h6
  rw[if_neg h6];split at h
  ·rename_i h7;exact absurd h h7
  rename_i h7
  rw[if_neg h7];have b:=Lx.next_bd h1 h3;have:=Lx.skip_ge s a.toNat;have b2:=hg _ (Classical.not_not.1 h7);have c:=dict_bd hg m _ _ _ h;exact⟨by omega,c.2⟩
theorem obj_good (s:List UInt8):∀n,Good s (obj s n):=by
 intro n
 induction n with
|zero=>
  intro a h;rw[obj] at h;split at h
  ·rename_i h1;exact absurd h h1
  split at h
  ·simp[bad] at h
  split at h
  ·simp[bad] at h
  ·simp[bad] at h
|succ n ih=>
  intro a h;rw[obj] at h ⊢;split at h
  ·rename_i h1;exact absurd h h1
  rename_i h1
  rw[if_neg h1];have h1:=Classical.not_not.1 h1;split at h
  ·simp[bad] at h
  rename_i h2
  rw[if_neg h2];split at h
  ·simp[bad] at h
  rename_i h3
  rw[if_neg h3];have b:=Lx.next_bd h1 h2;have:=Lx.skip_ge s a.toNat
  try simp only at h ⊢
  split at h
  ·rename_i h4
   rw[if_pos h4];exact (leaf_bd h1 h2).2
  rename_i h4
  rw[if_neg h4];split at h
  ·rename_i h5
   rw[if_pos h5];have c:=arr_bd ih _ _ _ h;exact⟨by omega,c.2⟩
  ·rename_i h5
   rw[if_neg h5];have c:=dict_bd ih _ _ _ _ h;exact⟨by omega,c.2⟩
theorem obj_bd {s:List UInt8}{n:Nat}{a:Int}(h:(obj s n a).2.2=0):a < (obj s n a).2.1∧(obj s n a).2.1≤s.length:=obj_good s n a h
end Ps
end
section
namespace Eng
open Go.RowKit
structure Mem where
 A:Nat→Prop
 w:World
 lt:∀b,A b→b < w.heap.size
def Mem.has (M:Mem)(w:World):Prop:=∀b,M.A b→w.heap[b]?=M.w.heap[b]?
structure Mem.le (M N:Mem):Prop where
 A:∀b,M.A b→N.A b
 has:M.has N.w
def Mem.all (w:World):Mem:=⟨fun b=>b < w.heap.size,w,fun _ h=>h⟩
theorem Mem.all_has (w:World):(Mem.all w).has w:=fun _ _=>rfl
theorem Mem.le_refl (M:Mem):M.le M:=⟨fun _ h=>h,fun _ _=>rfl⟩
theorem Mem.le_trans {M N O:Mem}(h:M.le N)(k:N.le O):M.le O:=⟨fun b hb=>k.A b (h.A b hb),fun b hb=>(k.has b (h.A b hb)).trans (h.has b hb)⟩
theorem Mem.has_of {M N:Mem}{w:World}(h:M.le N)(k:N.has w):M.has w:=fun b hb=>(k b (h.A b hb)).trans (h.has b hb)
theorem Mem.bd {M:Mem}{w:World}(h:M.has w){b:Nat}(hb:M.A b):b < w.heap.size:=by
 have h1:=h b hb;rw[Array.getElem?_eq_getElem (M.lt b hb)] at h1;exact lt_of_get h1
theorem Mem.has_below {M:Mem}{w w':World}(h:M.has w)(k:Below w.heap.size w w'):M.has w':=fun b hb=>(k.block b (Mem.bd h hb)).trans (h b hb)
def Ent.mem (M:Mem):Ent:=⟨M.A,M.has,fun h k b hb=>(k b hb).trans (h b hb),fun h k hk=>Mem.bd h hk⟩
structure Gives (M:Mem) (w w':World) (N:Mem):Prop where
 le:M.le N
 has:N.has w'
 new:∀b,N.A b→M.A b∨w.heap.size≤b
 below:Below w.heap.size w w'
def RetM (P:Program)(f:Nat)(args:Array Value)(M:Mem)(w:World)(R:Value→Mem→Prop):Prop:=Ret P f args w (fun v w'=>∃N,Gives M w w' N∧R v N)
section
variable {S:Nat→Prop}{P:Program}{w w0:World}{L:List Ent}{PK:PKT}{K:VWP}
theorem OwnS.memS {M:Mem}(h:M.has w):OwnS M.A w w [.mem M]:=OwnS.lend (e:=.mem M) h
theorem OwnS.hasM {M:Mem}(ho:OwnS S w0 w L)(i:Nat)(hi:L[i]?=some (.mem M)):M.has w:=ho.at_ i hi
theorem OwnS.gives {M N:Mem}{w':World}(ho:OwnS S w0 w L)(i:Nat)(hi:L[i]?=some (.mem M))(g:Gives M w w' N):OwnS S w0 w' (L.set i (.mem N)):=
 ho.turn i hi ⟨grew_below g.below,g.has,g.new⟩
theorem OwnS.toGives {M0 N:Mem}{w':World}(ho:OwnS M0.A w w' L)(i:Nat)(hi:L[i]?=some (.mem N))(hle:M0.le N)(h0:M0.has w):Gives M0 w w' N:=by
 have hm:=ho.all (.mem N) (List.mem_of_getElem? hi);refine⟨hle,hm.1,fun b hb=>hm.2 b hb,ho.grew.os,ho.grew.tape,ho.grew.output,ho.grew.size,fun k hk=>?_⟩;by_cases hA:M0.A k
 ·rw[h0 k hA];have h1:w'.heap[k]?=N.w.heap[k]?:=hm.1 k (hle.A k hA);rw[h1];exact hle.has k hA
 ·exact ho.grew.block k hk hA
theorem retM_of {f:Nat}{args:Array Value}{M:Mem}{R:Value→Mem→Prop}(hM:M.has w)
  (h:∀K:Ending→World→Prop,(∀(v:Value) (w':World) (N:Mem) (L:List Ent) (i:Nat),OwnS M.A w w' L→L[i]?=some (.mem N)→M.le N→R v N→K (.returned v) w')→Calls P f args w K):RetM P f args M w R:=
 ret_of fun K hK=>h K fun v w' N L i ho hi hle hr=>hK v w' ⟨N,ho.toGives i hi hle hM,hr⟩
theorem c_mem {f:Nat}{args:Array Value}{M:Mem}{R:Value→Mem→Prop}(ho:OwnS S w0 w L)(i:Nat)(hi:L[i]?=some (.mem M))(h:RetM P f args M w R)
  (k:∀v N w',M.le N→R v N→OwnS S w0 w' (L.set i (.mem N))→K v w'):CallX P f args w PK K:=
 c_ret h fun v w' ⟨N,g,r⟩=>k v N w' g.le r (ho.gives i hi g)
theorem OwnS.freeze {M:Mem}{e:Ent}(ho:OwnS S w0 w (e::L))(i:Nat)(hi:L[i]?=some (.mem M)) :
  ∃N:Mem,M.le N∧N.w=w∧(∀b,e.blk b→N.A b)∧OwnS S w0 w (L.set i (.mem N)):=by
 have he:=ho.all e (by simp);have hM:M.has w:=ho.at_ (i+1) (by simpa using hi);have hlt:∀b,M.A b∨e.blk b→b < w.heap.size:=fun b hb=>hb.elim (fun h=>Mem.bd hM h) (fun h=>e.lt he.1 b h)
 let N:Mem:=⟨fun b=>M.A b∨e.blk b,w,hlt⟩
 have hil:i < L.length:=(List.getElem?_eq_some_iff.1 hi).1;have hie:L[i]=.mem M:=(List.getElem?_eq_some_iff.1 hi).2;obtain⟨a1,a2⟩:=List.pairwise_cons.1 ho.apart;have hp:=List.pairwise_iff_getElem.1 a2;have bM:∀k,M.A k→(L[i]).blk k:=fun k hk=>by rw[hie];exact hk
 refine⟨N,⟨fun b hb=>.inl hb,hM⟩,rfl,fun b hb=>.inr hb,ho.grew,?_,?_⟩
 ·intro f hf;obtain⟨j,hj,rfl⟩:=List.getElem_of_mem hf;rw[List.length_set] at hj;rw[List.getElem_set];split
  ·refine⟨fun b _=>rfl,fun k hk=>?_⟩;rcases hk with hk|hk
   ·exact (ho.all (.mem M) (by rw[←hie];exact List.mem_cons_of_mem _ (List.getElem_mem hil))).2 k hk
   ·exact he.2 k hk
  ·exact ho.all _ (List.mem_cons_of_mem _ (List.getElem_mem hj))
 ·rw[List.pairwise_iff_getElem];intro a b ha hb hab k hk;rw[List.length_set] at ha hb;rw[List.getElem_set] at hk;rw[List.getElem_set];split at hk
  ·rename_i hia
   subst hia;rw[if_neg (by omega)];rcases hk with hk|hk
   ·exact hp i b ha hb hab k (bM k hk)
   ·exact a1 _ (List.getElem_mem hb) k hk
  ·split
   ·rename_i hib
    subst hib;intro hk';rcases hk' with hk'|hk'
    ·exact hp a i ha hb hab k hk (bM k hk')
    ·exact a1 _ (List.getElem_mem ha) k hk' hk
   ·exact hp a b ha hb hab k hk
end
end Eng
open Eng Go.RowKit
theorem SlA.le {M N:Mem}(h:M.le N){v:Value}{sz n:Nat}{cs:List Value}(hs:SlA M.A M.w v sz n cs):SlA N.A N.w v sz n cs:=by
 have:=hs.kept (w':=N.w) h.has;exact⟨this.1,(fun p l c e hn=>h.A _ (this.2.1 p l c e hn)),this.2.2⟩
theorem SlA.now {M:Mem}{w:World}(h:M.has w){v:Value}{sz n:Nat}{cs:List Value}(hs:SlA M.A M.w v sz n cs):Sl w v sz n cs:=(hs.kept (w':=w) h).1
theorem OV.le {M N:Mem}(h:M.le N){v:Value}{o:Ob}(hv:OV M.A M.w v o):OV N.A N.w v o:=OV.mono h.A o v (OV.kept h.has o v hv)
theorem OVs.le {M N:Mem}(h:M.le N){cs:List Value}{os:List Ob}(hv:OVs M.A M.w cs os):OVs N.A N.w cs os:=OVs.mono h.A os cs (OVs.kept h.has os cs hv)
theorem OV.inw {M:Mem}{w:World}(h:M.has w){v:Value}{o:Ob}(hv:OV M.A M.w v o):OV (InW w) w v o:=OV.mono (fun b hb=>Mem.bd h hb) o v (OV.kept h o v hv)
end
section
namespace Eng
open Go.RowKit
section
variable {S:Nat→Prop}{P:Program}{w w0:World}{L:List Ent}{PK:PKT}{K:VWP}
def subA (a:Option Addr)(l cap sz:Nat):Option Addr:=if cap=l then a else a.map (·.add (l*sz))
theorem run_len_sl {T U E:TypeId}{cb:Array Bool}{a:Option Addr}{n cap:Nat}(h:P.underlying T=some (.slice E)):(mB .len #[T] U cb #[.slice a n cap]).run P w=.ok (.value (.int .i64 (n:Int))) w:=by
 simp[mB,builtin,Builtin.len_,run_underlying h,goInt]
theorem mem_urow {M N:Mem}{T:TypeId}{sz:Nat}{v:Value}{n:Nat}{xs:List Value}(hw:N.w=w)(hb:∀b,(Ent.urow T sz v n xs).blk b→N.A b)(h:(Ent.urow T sz v n xs).is w):SlA N.A N.w v sz n xs:=by
 rw[hw];refine⟨Sl.urow h,fun p l c e hn=>hb _ ?_,fun a l c e=>?_⟩
 ·rcases (show w.ownsRow 0 T sz v n xs from h).2 with ⟨rfl,h0⟩|⟨g,cap,cur,rfl,_⟩
  ·cases e
  ·injection e with e1 _ _
   injection e1 with e1
   rw[←e1];rfl
 ·rcases (show w.ownsRow 0 T sz v n xs from h).2 with ⟨rfl,h0⟩|⟨g,cap,cur,rfl,_,_,hnc,_⟩
  ·injection e with _ e2 e3;omega
  ·injection e with _ e2 e3;omega
theorem OwnS.freezeU {M:Mem}{T:TypeId}{sz:Nat}{v:Value}{n:Nat}{xs:List Value}(ho:OwnS S w0 w (.urow T sz v n xs::L))(i:Nat)(hi:L[i]?=some (.mem M)) :
  ∃N:Mem,M.le N∧SlA N.A N.w v sz n xs∧OwnS S w0 w (L.set i (.mem N)):=by
 have h:=ho.at_ 0 rfl;obtain⟨N,h1,h2,h3,h4⟩:=ho.freeze i hi;exact⟨N,h1,mem_urow (M:=M) h2 h3 h,h4⟩
end
end Eng
end
section
open Eng
def S_slices_Contains_string_string (t0 t1:Value)(w:World)(K:Ending→World→Prop):Prop:=
 CallX prog 58 #[t0,t1] w (pk K) fun t7 w=>
 DoX prog (mBin .geq 3 t7 (.int .i64 0)) w (pk K) fun t8 w=>
 K (.returned t8) w
theorem S_slices_Contains_string_string_eq (t0 t1:Value)(w:World)(K:Ending→World→Prop):wpX prog 9 [] [] none (bodyOf Tryz.f32) (topQ prog [.tmp 4] K) (startX [t0,t1]) [] w=S_slices_Contains_string_string t0 t1 w K:=by kernel_rfl
theorem S_slices_Contains_string_string_ok {t0 t1:Value}{w:World}{K:Ending→World→Prop}(h:S_slices_Contains_string_string t0 t1 w K):Calls prog 32 #[t0,t1] w K:=
 calls_of_wpX Tryz.func32 rfl rfl rfl rfl (Eq.mpr (S_slices_Contains_string_string_eq t0 t1 w K) h)
end
end Go.Proofs.YtoofficgclghoaaGreatDoor

namespace Go.Proofs.YtoofficgclghoaaGreatDoor
section
open Eng
def S_value_Null (w:World)(K:Ending→World→Prop):Prop:=
 DoX prog (mAlloc 42) w (pk K) fun t0 w=>
 DoX prog (mBuild 42 #[]) w (pk K) fun t1 w=>
 DoX prog (mStore 42 t0 t1) w (pk K) fun _ w=>
 RetX prog [.cell t0 42] w K
theorem S_value_Null_eq (w:World)(K:Ending→World→Prop):wpX prog 2 [] [] none (bodyOf Tryz.f179) (topQ prog [.cell 0 42] K) (startX []) [] w=S_value_Null w K:=by kernel_rfl
theorem S_value_Null_ok {w:World}{K:Ending→World→Prop}(h:S_value_Null w K):Calls prog 179 #[] w K:=
 calls_of_wpX Tryz.func179 rfl rfl rfl rfl (Eq.mpr (S_value_Null_eq w K) h)
def S_value_Int (t0:Value)(w:World)(K:Ending→World→Prop):Prop:=
 DoX prog (mAlloc 42) w (pk K) fun t2 w=>
 DoX prog (mBuild 42 #[(0,(.int .i64 2)),(1,t0)]) w (pk K) fun t4 w=>
 DoX prog (mStore 42 t2 t4) w (pk K) fun _ w=>
 RetX prog [.cell t2 42] w K
theorem S_value_Int_eq (t0:Value)(w:World)(K:Ending→World→Prop):wpX prog 5 [] [] none (bodyOf Tryz.f175) (topQ prog [.cell 2 42] K) (startX [t0]) [] w=S_value_Int t0 w K:=by kernel_rfl
theorem S_value_Int_ok {t0:Value}{w:World}{K:Ending→World→Prop}(h:S_value_Int t0 w K):Calls prog 175 #[t0] w K:=
 calls_of_wpX Tryz.func175 rfl rfl rfl rfl (Eq.mpr (S_value_Int_eq t0 w K) h)
def S_value_Name (t0:Value)(w:World)(K:Ending→World→Prop):Prop:=
 DoX prog (mAlloc 42) w (pk K) fun t2 w=>
 DoX prog (mBuild 42 #[(0,(.int .i64 5)),(3,t0)]) w (pk K) fun t4 w=>
 DoX prog (mStore 42 t2 t4) w (pk K) fun _ w=>
 RetX prog [.cell t2 42] w K
theorem S_value_Name_eq (t0:Value)(w:World)(K:Ending→World→Prop):wpX prog 5 [] [] none (bodyOf Tryz.f178) (topQ prog [.cell 2 42] K) (startX [t0]) [] w=S_value_Name t0 w K:=by kernel_rfl
theorem S_value_Name_ok {t0:Value}{w:World}{K:Ending→World→Prop}(h:S_value_Name t0 w K):Calls prog 178 #[t0] w K:=
 calls_of_wpX Tryz.func178 rfl rfl rfl rfl (Eq.mpr (S_value_Name_eq t0 w K) h)
def S_value_String (t0:Value)(w:World)(K:Ending→World→Prop):Prop:=
 DoX prog (mAlloc 42) w (pk K) fun t2 w=>
 DoX prog (mBuild 42 #[(0,(.int .i64 4)),(3,t0)]) w (pk K) fun t4 w=>
 DoX prog (mStore 42 t2 t4) w (pk K) fun _ w=>
 RetX prog [.cell t2 42] w K
theorem S_value_String_eq (t0:Value)(w:World)(K:Ending→World→Prop):wpX prog 5 [] [] none (bodyOf Tryz.f177) (topQ prog [.cell 2 42] K) (startX [t0]) [] w=S_value_String t0 w K:=by kernel_rfl
theorem S_value_String_ok {t0:Value}{w:World}{K:Ending→World→Prop}(h:S_value_String t0 w K):Calls prog 177 #[t0] w K:=
 calls_of_wpX Tryz.func177 rfl rfl rfl rfl (Eq.mpr (S_value_String_eq t0 w K) h)
end
section
open Eng
def S_slices_Index_string_string_0 (t0 t1 t7 t8:Value)(w:World)(N1:List Value→World→Prop)(K:Ending→World→Prop):Prop:=
 DoX prog (mBin .lss 3 t8 t7) w (pk K) fun t9 w=>
 IfX t9 (DoX prog (mIA 39 t0 t8) w (pk K) fun t14 w=>
 DoX prog (mLoad 9 t14) w (pk K) fun t15 w=>
 DoX prog (mEq .eql 9 (.tmp 11) (.tmp 15) t1 t15) w (pk K) fun t16 w=>
 IfX t16 (K (.returned t8) w) (DoX prog (mBin .add 3 t8 (.int .i64 1)) w (pk K) fun t18 w=>
 N1 [t18] w)) (K (.returned (.int .i64 (-1))) w)
def S_slices_Index_string_string (t0 t1:Value)(w:World)(K:Ending→World→Prop):Prop:=
 DoX prog (mB .len #[39] 3 #[false] #[t0]) w (pk K) fun t7 w=>
 LoopX [(.int .i64 0)] w (fun vs1 w N1=>∀_:Sg,S_slices_Index_string_string_0 t0 t1 t7 (vs1.getD 0 undef) w N1 K)
theorem S_slices_Index_string_string_eq (t0 t1:Value)(w:World)(K:Ending→World→Prop):wpX prog 19 [] [(2,[8])] none (bodyOf Tryz.f58) (topQ prog [.tmp 4] K) (startX [t0,t1]) [] w=S_slices_Index_string_string t0 t1 w K:=by kernel_rfl
theorem S_slices_Index_string_string_ok {t0 t1:Value}{w:World}{K:Ending→World→Prop}(h:S_slices_Index_string_string t0 t1 w K):Calls prog 58 #[t0,t1] w K:=
 calls_of_wpX Tryz.func58 rfl rfl rfl rfl (Eq.mpr (S_slices_Index_string_string_eq t0 t1 w K) h)
end
section
open Eng Go.RowKit
theorem nStrI:notAgg prog 9=true:=by kernel_rfl
theorem idx_at {l:List (List UInt8)}{x:List UInt8}{i:Nat}(h:i < l.length)(hn:x ∉ l.take i)(he:l[i]=x):l.idxOf x=i:=by
 have e:l=l.take i++(l[i]::l.drop (i+1)):=by
  rw[←List.drop_eq_getElem_cons h,List.take_append_drop]
 rw[e,List.idxOf_append,if_neg hn,he,List.idxOf_cons_self,List.length_take];omega
theorem sindex_ret (va:Value)(l:List (List UInt8))(x:List UInt8)(w:World)(ha:Sl w va 1 l.length (strsV l))(hl:l.length≤1099511627776) :
  Ret prog 58 #[va,.string ⟨x.toArray⟩] w (fun v w'=>v=.int .i64 (if l.idxOf x < l.length then (l.idxOf x:Int) else -1)∧w=w'):=by
 refine ret_of fun K hK=>S_slices_Index_string_string_ok ?_;unfold S_slices_Index_string_string;rw[sl_len Tryz.underlying39 ha];refine loop (fun vs w'=>∃(i:Nat),vs=[.int .i64 i]∧i≤l.length∧x ∉ l.take i∧w=w') (fun vs _=>l.length - n0 vs) ⟨0,rfl,by omega,by simp,rfl⟩ ?_;rintro vs w2 ⟨i,rfl,hi,hm,rfl⟩ _;simp only[S_slices_Index_string_string_0,gd,rs];by_cases hlt:(i:Int) < (l.length:Int)
 ·have hi':i < l.length:=by omega
  simp only[hlt,decide_true,rs];refine sl_ia1 (.string ⟨(l[i]).toArray⟩) Tryz.underlying39 (by kernel_rfl) ha (by omega) (by rw[Int.toNat_natCast];exact strsV_get hi') fun q hq=>?_;rw[l_cell nStrI hq];simp only[rs];by_cases he:x=l[i]
  ·simp only[←he,decide_true,rs];have:=idx_at hi' hm he.symm;exact hK _ _ ⟨by rw[this,if_pos hi'],rfl⟩
  ·simp only[he,decide_false,rs];rw[wrap64_id (by omega) (by omega)];refine nextX ⟨i+1,rfl,by omega,?_,rfl⟩ (by simp[n0,RowKit.intOf];omega);rw[List.take_add_one,List.getElem?_eq_getElem hi'];simp only[Option.toList,List.mem_append,List.mem_singleton,not_or];exact⟨hm,he⟩
 ·simp only[hlt,decide_false,i_f];rw[List.take_of_length_le (by omega)] at hm;exact hK _ _ ⟨by rw[if_neg (by rw[List.idxOf_lt_length_iff];exact hm)],rfl⟩
end
end Go.Proofs.YtoofficgclghoaaGreatDoor


namespace Go.Proofs.YtoofficgclghoaaGreatDoor
section
open Eng Go.RowKit
theorem Eng.Mem.le.trans {M N O:Mem}(h:M.le N)(k:N.le O):M.le O:=Mem.le_trans h k
theorem urow_one {w:World}{T:TypeId}{sz:Nat}{v:Value}{n:Nat}{xs:List Value}(h:(Ent.urow T sz v n xs).is w):v.oneCell'=true:=by
 rcases (show w.ownsRow 0 T sz v n xs from h).2 with ⟨rfl,_⟩|⟨g,cap,cur,rfl,_⟩<;>rfl
theorem ovs_app {A:Nat→Prop}{w:World}:∀{os ps:List Ob} {cs ds:List Value},OVs A w cs os→OVs A w ds ps→OVs A w (cs++ds) (os++ps)
|[],ps,cs,ds,h,k=>by rw[OVs] at h;subst h;simpa using k
|o::os,ps,cs,ds,h,k=>by
  rw[OVs] at h;obtain⟨a,rest,rfl,hl,h1,h2⟩:=h;rw[List.cons_append,OVs];exact⟨a,rest++ds,by simp,hl,h1,ovs_app h2 k⟩
theorem ovs_1 {A:Nat→Prop}{w:World}{o:Ob}{vk vc:Value}(h:OV A w (obV o vk vc) o):OVs A w (obC o vk vc) [o]:=by
 rw[OVs];exact⟨obC o vk vc,[],by simp,rfl,h,OVs.nil⟩
end
section
open Eng Go.RowKit
section
variable {w:World}{S:Nat→Prop}{w0:World}{L:List Ent}
theorem m_ob0 {PK:PKT}{K:VWP}:DoX prog (mBuild 42 #[]) w PK K=K (obV Vl.ob0 nilS nilS) w:=do_eq (by kernel_rfl)
end
theorem vnull_ret (w:World):Ret prog 179 #[] w (obR (ob1 0 0 0 []) nilS nilS w):=by
 refine ret_of fun K hK=>S_value_Null_ok ?_;unfold S_value_Null;refine o_oba (Own.start w) fun b w1 ho=>?_;rw[m_ob0];refine ob_put 0 rfl rfl ho rfl fun w2 ho=>?_;exact ret_ob ho (hK _ _ ⟨rfl,ho.done⟩)
theorem vint_ret (n:Int)(w:World):Ret prog 175 #[.int .i64 n] w (obR (ob1 2 n 0 []) nilS nilS w):=by
 refine ret_of fun K hK=>S_value_Int_ok ?_;unfold S_value_Int;refine o_oba (Own.start w) fun b w1 ho=>?_;have hb:∀{PK:PKT} {K:VWP},DoX prog (mBuild 42 #[(0,(.int .i64 2)),(1,.int .i64 n)]) w1 PK K=K (obV (ob1 2 n 0 []) nilS nilS) w1:=do_eq (by kernel_rfl);rw[hb];refine ob_put 0 rfl rfl ho rfl fun w2 ho=>?_;exact ret_ob ho (hK _ _ ⟨rfl,ho.done⟩)
theorem vstr_ret (s:List UInt8)(w:World):Ret prog 177 #[.string ⟨s.toArray⟩] w (obR (ob1 4 0 0 s) nilS nilS w):=by
 refine ret_of fun K hK=>S_value_String_ok ?_;unfold S_value_String;refine o_oba (Own.start w) fun b w1 ho=>?_;have hb:∀{PK:PKT} {K:VWP},DoX prog (mBuild 42 #[(0,(.int .i64 4)),(3,.string ⟨s.toArray⟩)]) w1 PK K=K (obV (ob1 4 0 0 s) nilS nilS) w1:=do_eq (by kernel_rfl);rw[hb];refine ob_put 0 rfl rfl ho rfl fun w2 ho=>?_;exact ret_ob ho (hK _ _ ⟨rfl,ho.done⟩)
theorem vname_ret (s:List UInt8)(w:World):Ret prog 178 #[.string ⟨s.toArray⟩] w (obR (ob1 5 0 0 s) nilS nilS w):=by
 refine ret_of fun K hK=>S_value_Name_ok ?_;unfold S_value_Name;refine o_oba (Own.start w) fun b w1 ho=>?_;have hb:∀{PK:PKT} {K:VWP},DoX prog (mBuild 42 #[(0,(.int .i64 5)),(3,.string ⟨s.toArray⟩)]) w1 PK K=K (obV (ob1 5 0 0 s) nilS nilS) w1:=do_eq (by kernel_rfl);rw[hb];refine ob_put 0 rfl rfl ho rfl fun w2 ho=>?_;exact ret_ob ho (hK _ _ ⟨rfl,ho.done⟩)
end
end Go.Proofs.YtoofficgclghoaaGreatDoor



namespace Go.Proofs.YtoofficgclghoaaGreatDoor
section
open Eng Go.RowKit
section
variable {P:Program}{w w0:World}{L:List Ent}{PK:PKT}{K:VWP}
end
theorem fa_t3 {b:Nat}{w:World}{PK:PKT}{K:VWP}:DoX prog (mFA 53 (.pointer (some ⟨b,0,none⟩)) 3) w PK K=K (.pointer (some ⟨b,3,none⟩)) w:=f_addr (show fOff prog 53 3=some 3 by kernel_rfl)
theorem fa_t4' {b:Nat}{w:World}{PK:PKT}{K:VWP}:DoX prog (mFA 53 (.pointer (some ⟨b,0,none⟩)) 4) w PK K=K (.pointer (some ⟨b,4,none⟩)) w:=f_addr (show fOff prog 53 4=some 4 by kernel_rfl)
end
end Go.Proofs.YtoofficgclghoaaGreatDoor

namespace Go.Proofs.YtoofficgclghoaaGreatDoor
section
open Eng
def S_parse_reader_peek (t0 t1:Value)(w:World)(K:Ending→World→Prop):Prop:=
 DoX prog (mAlloc 53) w (pk K) fun t4 w=>
 DoX prog (mNil t0) w (pk K) fun t10 w=>
 DoX prog (mFA 144 t10 0) w (pk K) fun t11 w=>
 DoX prog (mLoad 9 t11) w (pk K) fun t12 w=>
 CallX prog 61 #[t12,t1] w (pk K) fun t14 w=>
 DoX prog (mExt t14 0) w (pk K) fun t15 w=>
 DoX prog (mExt t14 1) w (pk K) fun t16 w=>
 DoX prog (mAlloc 53) w (pk K) fun t6 w=>
 DoX prog (mStore 53 t6 t15) w (pk K) fun _ w=>
 DoX prog (mLoad 53 t6) w (pk K) fun t17 w=>
 DoX prog (mEq .eql 24 (.tmp 18) (.const (.int .i64 0)) t16 (.int .i64 0)) w (pk K) fun t19 w=>
 DoX prog (mStore 53 t4 t17) w (pk K) fun _ w=>
 RetX prog [.cell t4 53,.val t19] w K
theorem S_parse_reader_peek_eq (t0 t1:Value)(w:World)(K:Ending→World→Prop):wpX prog 20 [] [] none (bodyOf Tryz.f208) (topQ prog [.cell 4 53,.tmp 5] K) (startX [t0,t1]) [] w=S_parse_reader_peek t0 t1 w K:=by kernel_rfl
theorem S_parse_reader_peek_ok {t0 t1:Value}{w:World}{K:Ending→World→Prop}(h:S_parse_reader_peek t0 t1 w K):Calls prog 208 #[t0,t1] w K:=
 calls_of_wpX Tryz.func208 rfl rfl rfl rfl (Eq.mpr (S_parse_reader_peek_eq t0 t1 w K) h)
def S_parse_reader_next_2 (t0 t2 t3:Value)(w:World)(K:Ending→World→Prop):Prop:=
 DoX prog (mFA 53 t3 2) w (pk K) fun t26 w=>
 DoX prog (mLoad 3 t26) w (pk K) fun t27 w=>
 DoX prog (mNil t0) w (pk K) fun t28 w=>
 DoX prog (mFA 144 t28 1) w (pk K) fun t29 w=>
 DoX prog (mStore 3 t29 t27) w (pk K) fun _ w=>
 DoX prog (mLoad 53 t3) w (pk K) fun t30 w=>
 DoX prog (mStore 53 t2 t30) w (pk K) fun _ w=>
 RetX prog [.cell t2 53] w K
def S_parse_reader_next_1 (t0 t2 t3:Value)(w:World)(K:Ending→World→Prop):Prop:=
 JoinX (fun J3=>
 DoX prog (mFA 53 t3 0) w (pk K) fun t21 w=>
 DoX prog (mLoad 3 t21) w (pk K) fun t22 w=>
 DoX prog (mEq .eql 3 (.tmp 22) (.const (.int .i64 0)) t22 (.int .i64 0)) w (pk K) fun t23 w=>
 IfX t23 (DoX prog (mIface 203 (.int .i64 4)) w (pk K) fun t24 w=>
 DoX prog (mPanic t24) w (pk K) fun _ w=>
 J3 [] w) (J3 [] w)) (fun vs3 w=>∀_:Sg,S_parse_reader_next_2 t0 t2 t3 w K)
def S_parse_reader_next_0 (t0 t2 t3 t4:Value)(w:World)(K:Ending→World→Prop):Prop:=
 JoinX (fun J2=>
 DoX prog (mEq .neq 24 (.tmp 17) (.const (.int .i64 0)) t4 (.int .i64 0)) w (pk K) fun t18 w=>
 IfX t18 (DoX prog (mIface 203 t4) w (pk K) fun t20 w=>
 DoX prog (mPanic t20) w (pk K) fun _ w=>
 J2 [] w) (J2 [] w)) (fun vs2 w=>∀_:Sg,S_parse_reader_next_1 t0 t2 t3 w K)
def S_parse_reader_next (t0:Value)(w:World)(K:Ending→World→Prop):Prop:=
 DoX prog (mAlloc 53) w (pk K) fun t2 w=>
 HeldX w (fun S1 w=>
 HDo prog (fun _=>True) (mNil t0) fun t7=>
 HDo prog (fun _=>True) (mFA 144 t7 0) fun t8=>
 HDo prog S1 (mLoad 9 t8) fun t9=>
 HDo prog (fun _=>True) (mNil t0) fun t11=>
 HDo prog (fun _=>True) (mFA 144 t11 1) fun t12=>
 HDo prog S1 (mLoad 3 t12) fun t13=>
 (CallX prog 61 #[t9,t13] w (pm1 (pm1 (pm1 (pm1 (pm1 (pm1 (pm1 (pm1 (pm1 (pm1 (pm1 (pm1 (pk K))))))))))))) fun t14 w=>
 (HDo prog (fun _=>True) (mExt t14 0) fun t15=>
 HDo prog (fun _=>True) (mExt t14 1) fun t16=>
 DoX prog (mAlloc 53) w (pm1 (pm1 (pm1 (pm1 (pm1 (pm1 (pm1 (pm1 (pm1 (pm1 (pm1 (pm1 (pk K))))))))))))) fun t3 w=>
 S1 w∧(DoX prog (mStore 53 t3 t15) w (pm1 (pm1 (pm1 (pm1 (pm1 (pm1 (pm1 (pm1 (pm1 (pm1 (pm1 (pm1 (pk K))))))))))))) fun _ w=>
 (S_parse_reader_next_0 t0 t2 t3 t16 w K))))∧(DoX prog (mAlloc 53) w (pm1 (pm1 (pm1 (pm1 (pm1 (pm1 (pm1 (pm1 (pm1 (pm1 (pm1 (pm1 (pk K))))))))))))) fun t3_1 w=>
 S1 w∧(CallX prog 61 #[t9,t13] w (pm1 (pm1 (pm1 (pm1 (pm1 (pm1 (pm1 (pm1 (pm1 (pm1 (pm1 (pm1 (pk K))))))))))))) fun t14_1 w=>
 (HDo prog (fun _=>True) (mExt t14_1 0) fun t15_1=>
 HDo prog (fun _=>True) (mExt t14_1 1) fun t16_1=>
 DoX prog (mStore 53 t3_1 t15_1) w (pm1 (pm1 (pm1 (pm1 (pm1 (pm1 (pm1 (pm1 (pm1 (pm1 (pm1 (pm1 (pk K))))))))))))) fun _ w=>
 (S_parse_reader_next_0 t0 t2 t3_1 t16_1 w K)))))
theorem S_parse_reader_next_eq (t0:Value)(w:World)(K:Ending→World→Prop):wpX prog 31 [(4,[]),(6,[])] [] none (bodyOf Tryz.f151) (topQ prog [.cell 2 53] K) (startX [t0]) [] w=S_parse_reader_next t0 w K:=by kernel_rfl
theorem S_parse_reader_next_ok {t0:Value}{w:World}{K:Ending→World→Prop}(h:S_parse_reader_next t0 w K):Calls prog 151 #[t0] w K:=
 calls_of_wpX Tryz.func151 rfl rfl rfl rfl (Eq.mpr (S_parse_reader_next_eq t0 w K) h)
def S_parse_word (t0 t1 t2:Value)(w:World)(K:Ending→World→Prop):Prop:=
 DoX prog (mBox 53 t0) w (pk K) fun t3 w=>
 DoX prog (mFA 53 t3 0) w (pk K) fun t7 w=>
 DoX prog (mLoad 3 t7) w (pk K) fun t8 w=>
 DoX prog (mEq .eql 3 (.tmp 8) (.tmp 9) t8 t1) w (pk K) fun t10 w=>
 GDo t10 true (fun E=>DoX prog (mFA 53 t3 4) w (pk K) E) w fun t12 w=>
 GDo t10 true (fun E=>DoX prog (mLoad 9 t12) w (pk K) E) w fun t13 w=>
 GDo t10 true (fun E=>E t2 w) w fun t14 w=>
 GDo t10 true (fun E=>DoX prog (mEq .eql 9 (.tmp 13) (.tmp 14) t13 t14) w (pk K) E) w fun t15 w=>
 DoX prog (mPick t10 t15 (.bool false)) w (pk K) fun t16 w=>
 K (.returned t16) w
theorem S_parse_word_eq (t0 t1 t2:Value)(w:World)(K:Ending→World→Prop):wpX prog 17 [] [] none (bodyOf Tryz.f209) (topQ prog [.tmp 6] K) (startX [t0,t1,t2]) [] w=S_parse_word t0 t1 t2 w K:=by kernel_rfl
theorem S_parse_word_ok {t0 t1 t2:Value}{w:World}{K:Ending→World→Prop}(h:S_parse_word t0 t1 t2 w K):Calls prog 209 #[t0,t1,t2] w K:=
 calls_of_wpX Tryz.func209 rfl rfl rfl rfl (Eq.mpr (S_parse_word_eq t0 t1 t2 w K) h)
def S_parse_begins (t0:Value)(w:World)(K:Ending→World→Prop):Prop:=
 DoX prog (mBox 53 t0) w (pk K) fun t1 w=>
 DoX prog (mFA 53 t1 0) w (pk K) fun t3 w=>
 DoX prog (mLoad 3 t3) w (pk K) fun t4 w=>
 DoX prog (mEq .eql 3 (.tmp 4) (.const (.int .i64 5)) t4 (.int .i64 5)) w (pk K) fun t6 w=>
 IfX t6 (DoX prog (mFA 53 t1 4) w (pk K) fun t7 w=>
 DoX prog (mLoad 9 t7) w (pk K) fun t8 w=>
 DoX prog (mEq .eql 9 (.tmp 8) (.const (.string ⟨#[116,114,117,101]⟩)) t8 (.string ⟨#[116,114,117,101]⟩)) w (pk K) fun t9 w=>
 GDo t9 false (fun E=>DoX prog (mFA 53 t1 4) w (pk K) E) w fun t11 w=>
 GDo t9 false (fun E=>DoX prog (mLoad 9 t11) w (pk K) E) w fun t12 w=>
 GDo t9 false (fun E=>DoX prog (mEq .eql 9 (.tmp 12) (.const (.string ⟨#[102,97,108,115,101]⟩)) t12 (.string ⟨#[102,97,108,115,101]⟩)) w (pk K) E) w fun t13 w=>
 DoX prog (mPick t9 (.bool true) t13) w (pk K) fun t14 w=>
 GDo t14 false (fun E=>DoX prog (mFA 53 t1 4) w (pk K) E) w fun t16 w=>
 GDo t14 false (fun E=>DoX prog (mLoad 9 t16) w (pk K) E) w fun t17 w=>
 GDo t14 false (fun E=>DoX prog (mEq .eql 9 (.tmp 17) (.const (.string ⟨#[110,117,108,108]⟩)) t17 (.string ⟨#[110,117,108,108]⟩)) w (pk K) E) w fun t18 w=>
 DoX prog (mPick t14 (.bool true) t18) w (pk K) fun t19 w=>
 K (.returned t19) w) (DoX prog (mEq .eql 3 (.tmp 4) (.const (.int .i64 6)) t4 (.int .i64 6)) w (pk K) fun t21 w=>
 IfX t21 (DoX prog (mFA 53 t1 4) w (pk K) fun t22 w=>
 DoX prog (mLoad 9 t22) w (pk K) fun t23 w=>
 DoX prog (mEq .eql 9 (.tmp 23) (.const (.string ⟨#[91]⟩)) t23 (.string ⟨#[91]⟩)) w (pk K) fun t24 w=>
 GDo t24 false (fun E=>DoX prog (mFA 53 t1 4) w (pk K) E) w fun t26 w=>
 GDo t24 false (fun E=>DoX prog (mLoad 9 t26) w (pk K) E) w fun t27 w=>
 GDo t24 false (fun E=>DoX prog (mEq .eql 9 (.tmp 27) (.const (.string ⟨#[60,60]⟩)) t27 (.string ⟨#[60,60]⟩)) w (pk K) E) w fun t28 w=>
 DoX prog (mPick t24 (.bool true) t28) w (pk K) fun t29 w=>
 K (.returned t29) w) (K (.returned (.bool true)) w))
theorem S_parse_begins_eq (t0:Value)(w:World)(K:Ending→World→Prop):wpX prog 30 [] [] none (bodyOf Tryz.f173) (topQ prog [.tmp 2] K) (startX [t0]) [] w=S_parse_begins t0 w K:=by kernel_rfl
theorem S_parse_begins_ok {t0:Value}{w:World}{K:Ending→World→Prop}(h:S_parse_begins t0 w K):Calls prog 173 #[t0] w K:=
 calls_of_wpX Tryz.func173 rfl rfl rfl rfl (Eq.mpr (S_parse_begins_eq t0 w K) h)
def S_parse_reader_ref (t0 t1:Value)(w:World)(K:Ending→World→Prop):Prop:=
 DoX prog (mBox 53 t1) w (pk K) fun t3 w=>
 DoX prog (mAlloc 42) w (pk K) fun t4 w=>
 DoX prog (mFA 53 t3 3) w (pk K) fun t9 w=>
 DoX prog (mLoad 2 t9) w (pk K) fun t10 w=>
 DoX prog (mBin .lss 2 t10 (.int .i64 1)) w (pk K) fun t11 w=>
 GDo t11 false (fun E=>DoX prog (mFA 53 t3 3) w (pk K) E) w fun t13 w=>
 GDo t11 false (fun E=>DoX prog (mLoad 2 t13) w (pk K) E) w fun t14 w=>
 GDo t11 false (fun E=>DoX prog (mBin .gtr 2 t14 (.int .i64 8191)) w (pk K) E) w fun t15 w=>
 DoX prog (mPick t11 (.bool true) t15) w (pk K) fun t16 w=>
 IfX t16 (DoX prog (mBuild 42 #[]) w (pk K) fun t17 w=>
 DoX prog (mStore 42 t4 t17) w (pk K) fun _ w=>
 RetX prog [.cell t4 42,.val (.bool false)] w K) (DoX prog (mFA 53 t3 2) w (pk K) fun t20 w=>
 DoX prog (mLoad 3 t20) w (pk K) fun t21 w=>
 CallX prog 208 #[t0,t21] w (pk K) fun t22 w=>
 DoX prog (mExt t22 0) w (pk K) fun t23 w=>
 DoX prog (mExt t22 1) w (pk K) fun t24 w=>
 DoX prog (mAlloc 53) w (pk K) fun t6 w=>
 DoX prog (mStore 53 t6 t23) w (pk K) fun _ w=>
 DoX prog (mUn .not t24) w (pk K) fun t26 w=>
 GDo t26 false (fun E=>DoX prog (mFA 53 t6 0) w (pk K) E) w fun t28 w=>
 GDo t26 false (fun E=>DoX prog (mLoad 3 t28) w (pk K) E) w fun t29 w=>
 GDo t26 false (fun E=>DoX prog (mEq .neq 3 (.tmp 29) (.const (.int .i64 1)) t29 (.int .i64 1)) w (pk K) E) w fun t30 w=>
 DoX prog (mPick t26 (.bool true) t30) w (pk K) fun t31 w=>
 GDo t31 false (fun E=>DoX prog (mFA 53 t6 3) w (pk K) E) w fun t33 w=>
 GDo t31 false (fun E=>DoX prog (mLoad 2 t33) w (pk K) E) w fun t34 w=>
 GDo t31 false (fun E=>DoX prog (mBin .lss 2 t34 (.int .i64 0)) w (pk K) E) w fun t35 w=>
 DoX prog (mPick t31 (.bool true) t35) w (pk K) fun t36 w=>
 GDo t36 false (fun E=>DoX prog (mFA 53 t6 3) w (pk K) E) w fun t38 w=>
 GDo t36 false (fun E=>DoX prog (mLoad 2 t38) w (pk K) E) w fun t39 w=>
 GDo t36 false (fun E=>DoX prog (mBin .gtr 2 t39 (.int .i64 65535)) w (pk K) E) w fun t40 w=>
 DoX prog (mPick t36 (.bool true) t40) w (pk K) fun t41 w=>
 IfX t41 (DoX prog (mBuild 42 #[]) w (pk K) fun t42 w=>
 DoX prog (mStore 42 t4 t42) w (pk K) fun _ w=>
 RetX prog [.cell t4 42,.val (.bool false)] w K) (DoX prog (mFA 53 t6 2) w (pk K) fun t45 w=>
 DoX prog (mLoad 3 t45) w (pk K) fun t46 w=>
 CallX prog 208 #[t0,t46] w (pk K) fun t47 w=>
 DoX prog (mExt t47 0) w (pk K) fun t48 w=>
 DoX prog (mExt t47 1) w (pk K) fun t49 w=>
 DoX prog (mAlloc 53) w (pk K) fun t8 w=>
 DoX prog (mStore 53 t8 t48) w (pk K) fun _ w=>
 DoX prog (mUn .not t49) w (pk K) fun t51 w=>
 GDo t51 false (fun E=>DoX prog (mLoad 53 t8) w (pk K) E) w fun t53 w=>
 GDo t51 false (fun E=>CallX prog 209 #[t53,(.int .i64 5),(.string ⟨#[82]⟩)] w (pk K) E) w fun t54 w=>
 GDo t51 false (fun E=>DoX prog (mUn .not t54) w (pk K) E) w fun t55 w=>
 DoX prog (mPick t51 (.bool true) t55) w (pk K) fun t56 w=>
 IfX t56 (DoX prog (mBuild 42 #[]) w (pk K) fun t57 w=>
 DoX prog (mStore 42 t4 t57) w (pk K) fun _ w=>
 RetX prog [.cell t4 42,.val (.bool false)] w K) (DoX prog (mFA 53 t8 2) w (pk K) fun t59 w=>
 DoX prog (mLoad 3 t59) w (pk K) fun t60 w=>
 DoX prog (mNil t0) w (pk K) fun t61 w=>
 DoX prog (mFA 144 t61 1) w (pk K) fun t62 w=>
 DoX prog (mStore 3 t62 t60) w (pk K) fun _ w=>
 DoX prog (mFA 53 t3 3) w (pk K) fun t63 w=>
 DoX prog (mLoad 2 t63) w (pk K) fun t64 w=>
 DoX prog (mFA 53 t6 3) w (pk K) fun t65 w=>
 DoX prog (mLoad 2 t65) w (pk K) fun t66 w=>
 CallX prog 210 #[t64,t66] w (pk K) fun t67 w=>
 DoX prog (mStore 42 t4 t67) w (pk K) fun _ w=>
 RetX prog [.cell t4 42,.val (.bool true)] w K)))
theorem S_parse_reader_ref_eq (t0 t1:Value)(w:World)(K:Ending→World→Prop):wpX prog 68 [] [] none (bodyOf Tryz.f174) (topQ prog [.cell 4 42,.tmp 5] K) (startX [t0,t1]) [] w=S_parse_reader_ref t0 t1 w K:=by kernel_rfl
theorem S_parse_reader_ref_ok {t0 t1:Value}{w:World}{K:Ending→World→Prop}(h:S_parse_reader_ref t0 t1 w K):Calls prog 174 #[t0,t1] w K:=
 calls_of_wpX Tryz.func174 rfl rfl rfl rfl (Eq.mpr (S_parse_reader_ref_eq t0 t1 w K) h)
def S_parse_reader_object_1 (t0 t2 t4 t6:Value)(w:World)(K:Ending→World→Prop):Prop:=
 DoX prog (mFA 53 t4 0) w (pk K) fun t16 w=>
 DoX prog (mLoad 3 t16) w (pk K) fun t17 w=>
 DoX prog (mEq .eql 3 (.tmp 17) (.const (.int .i64 1)) t17 (.int .i64 1)) w (pk K) fun t19 w=>
 IfX t19 (DoX prog (mLoad 53 t4) w (pk K) fun t22 w=>
 CallX prog 174 #[t0,t22] w (pk K) fun t23 w=>
 DoX prog (mExt t23 0) w (pk K) fun t24 w=>
 DoX prog (mExt t23 1) w (pk K) fun t25 w=>
 DoX prog (mAlloc 42) w (pk K) fun t7 w=>
 DoX prog (mStore 42 t7 t24) w (pk K) fun _ w=>
 IfX t25 (DoX prog (mLoad 42 t7) w (pk K) fun t27 w=>
 DoX prog (mStore 42 t6 t27) w (pk K) fun _ w=>
 RetX prog [.cell t6 42] w K) (DoX prog (mFA 53 t4 3) w (pk K) fun t28 w=>
 DoX prog (mLoad 2 t28) w (pk K) fun t29 w=>
 CallX prog 175 #[t29] w (pk K) fun t30 w=>
 DoX prog (mStore 42 t6 t30) w (pk K) fun _ w=>
 RetX prog [.cell t6 42] w K)) (DoX prog (mEq .eql 3 (.tmp 17) (.const (.int .i64 2)) t17 (.int .i64 2)) w (pk K) fun t32 w=>
 IfX t32 (DoX prog (mFA 53 t4 3) w (pk K) fun t33 w=>
 DoX prog (mLoad 2 t33) w (pk K) fun t34 w=>
 CallX prog 176 #[t34] w (pk K) fun t35 w=>
 DoX prog (mStore 42 t6 t35) w (pk K) fun _ w=>
 RetX prog [.cell t6 42] w K) (DoX prog (mEq .eql 3 (.tmp 17) (.const (.int .i64 3)) t17 (.int .i64 3)) w (pk K) fun t37 w=>
 IfX t37 (DoX prog (mFA 53 t4 4) w (pk K) fun t38 w=>
 DoX prog (mLoad 9 t38) w (pk K) fun t39 w=>
 CallX prog 177 #[t39] w (pk K) fun t40 w=>
 DoX prog (mStore 42 t6 t40) w (pk K) fun _ w=>
 RetX prog [.cell t6 42] w K) (DoX prog (mEq .eql 3 (.tmp 17) (.const (.int .i64 4)) t17 (.int .i64 4)) w (pk K) fun t42 w=>
 IfX t42 (DoX prog (mFA 53 t4 4) w (pk K) fun t43 w=>
 DoX prog (mLoad 9 t43) w (pk K) fun t44 w=>
 CallX prog 178 #[t44] w (pk K) fun t45 w=>
 DoX prog (mStore 42 t6 t45) w (pk K) fun _ w=>
 RetX prog [.cell t6 42] w K) (DoX prog (mEq .eql 3 (.tmp 17) (.const (.int .i64 5)) t17 (.int .i64 5)) w (pk K) fun t47 w=>
 IfX t47 (DoX prog (mFA 53 t4 4) w (pk K) fun t48 w=>
 DoX prog (mLoad 9 t48) w (pk K) fun t49 w=>
 DoX prog (mEq .eql 9 (.tmp 49) (.const (.string ⟨#[110,117,108,108]⟩)) t49 (.string ⟨#[110,117,108,108]⟩)) w (pk K) fun t50 w=>
 IfX t50 (CallX prog 179 #[] w (pk K) fun t51 w=>
 DoX prog (mStore 42 t6 t51) w (pk K) fun _ w=>
 RetX prog [.cell t6 42] w K) (DoX prog (mFA 53 t4 4) w (pk K) fun t52 w=>
 DoX prog (mLoad 9 t52) w (pk K) fun t53 w=>
 DoX prog (mEq .eql 9 (.tmp 53) (.const (.string ⟨#[116,114,117,101]⟩)) t53 (.string ⟨#[116,114,117,101]⟩)) w (pk K) fun t54 w=>
 CallX prog 180 #[t54] w (pk K) fun t55 w=>
 DoX prog (mStore 42 t6 t55) w (pk K) fun _ w=>
 RetX prog [.cell t6 42] w K)) (DoX prog (mFA 53 t4 4) w (pk K) fun t56 w=>
 DoX prog (mLoad 9 t56) w (pk K) fun t57 w=>
 DoX prog (mEq .eql 9 (.tmp 57) (.const (.string ⟨#[91]⟩)) t57 (.string ⟨#[91]⟩)) w (pk K) fun t58 w=>
 IfX t58 (DoX prog (mBin .add 3 t2 (.int .i64 1)) w (pk K) fun t61 w=>
 CallX prog 181 #[t0,t61] w (pk K) fun t62 w=>
 DoX prog (mStore 42 t6 t62) w (pk K) fun _ w=>
 RetX prog [.cell t6 42] w K) (DoX prog (mBin .add 3 t2 (.int .i64 1)) w (pk K) fun t65 w=>
 CallX prog 182 #[t0,t65] w (pk K) fun t66 w=>
 DoX prog (mStore 42 t6 t66) w (pk K) fun _ w=>
 RetX prog [.cell t6 42] w K))))))
def S_parse_reader_object_0 (t0 t2 t4 t6:Value)(w:World)(K:Ending→World→Prop):Prop:=
 JoinX (fun J2=>
 DoX prog (mBin .geq 3 t2 (.int .i64 24)) w (pk K) fun t14 w=>
 IfX t14 (DoX prog (mIface 203 (.int .i64 7)) w (pk K) fun t15 w=>
 DoX prog (mPanic t15) w (pk K) fun _ w=>
 J2 [] w) (J2 [] w)) (fun vs2 w=>∀_:Sg,S_parse_reader_object_1 t0 t2 t4 t6 w K)
def S_parse_reader_object (t0 t1 t2:Value)(w:World)(K:Ending→World→Prop):Prop:=
 DoX prog (mBox 53 t1) w (pk K) fun t4 w=>
 DoX prog (mAlloc 42) w (pk K) fun t6 w=>
 JoinX (fun J1=>
 DoX prog (mLoad 53 t4) w (pk K) fun t9 w=>
 CallX prog 173 #[t9] w (pk K) fun t10 w=>
 DoX prog (mUn .not t10) w (pk K) fun t11 w=>
 IfX t11 (DoX prog (mIface 203 (.int .i64 3)) w (pk K) fun t12 w=>
 DoX prog (mPanic t12) w (pk K) fun _ w=>
 J1 [] w) (J1 [] w)) (fun vs1 w=>∀_:Sg,S_parse_reader_object_0 t0 t2 t4 t6 w K)
theorem S_parse_reader_object_eq (t0 t1 t2:Value)(w:World)(K:Ending→World→Prop):wpX prog 67 [(3,[]),(5,[])] [] none (bodyOf Tryz.f150) (topQ prog [.cell 6 42] K) (startX [t0,t1,t2]) [] w=S_parse_reader_object t0 t1 t2 w K:=by kernel_rfl
theorem S_parse_reader_object_ok {t0 t1 t2:Value}{w:World}{K:Ending→World→Prop}(h:S_parse_reader_object t0 t1 t2 w K):Calls prog 150 #[t0,t1,t2] w K:=
 calls_of_wpX Tryz.func150 rfl rfl rfl rfl (Eq.mpr (S_parse_reader_object_eq t0 t1 t2 w K) h)
def S_parse_reader_array_1 (t0 t1 t5 t6:Value)(w:World)(N1:List Value→World→Prop)(K:Ending→World→Prop):Prop:=
 HeldX w (fun S3 w=>
 HDo prog (fun _=>True) (mFA 42 t5 5) fun t26=>
 HDo prog S3 (mLoad 40 t26) fun t27=>
 HDo prog S3 (mLoad 53 t6) fun t29=>
 CallX prog 150 #[t0,t29,t1] w (pm1 (pm1 (pm1 (pm1 (pm1 (pm1 (pk K))))))) fun t31 w=>
 S3 w∧(DoX prog (mBuildS 40 1 #[(0,t31)]) w (pm1 (pm1 (pm1 (pm1 (pm1 (pm1 (pk K))))))) fun t32 w=>
 S3 w∧(DoX prog (mB .append #[40,40] 40 #[false,false] #[t27,t32]) w (pm1 (pm1 (pm1 (pm1 (pm1 (pm1 (pk K))))))) fun t33 w=>
 S3 w∧(HDo prog (fun _=>True) (mFA 42 t5 5) fun t34=>
 DoX prog (mStore 40 t34 t33) w (pm1 (pm1 (pm1 (pm1 (pm1 (pm1 (pk K))))))) fun _ w=>
 (N1 [] w)))))
def S_parse_reader_array_0 (t0 t1 t4 t5:Value)(w:World)(N1:List Value→World→Prop)(K:Ending→World→Prop):Prop:=
 CallX prog 151 #[t0] w (pk K) fun t9 w=>
 DoX prog (mAlloc 53) w (pk K) fun t6 w=>
 DoX prog (mStore 53 t6 t9) w (pk K) fun _ w=>
 DoX prog (mLoad 53 t6) w (pk K) fun t10 w=>
 CallX prog 209 #[t10,(.int .i64 6),(.string ⟨#[93]⟩)] w (pk K) fun t11 w=>
 IfX t11 (DoX prog (mLoad 42 t5) w (pk K) fun t12 w=>
 DoX prog (mStore 42 t4 t12) w (pk K) fun _ w=>
 RetX prog [.cell t4 42] w K) (JoinX (fun J2=>
 DoX prog (mLoad 53 t6) w (pk K) fun t13 w=>
 CallX prog 173 #[t13] w (pk K) fun t14 w=>
 GDo t14 true (fun E=>E t1 w) w fun t16 w=>
 GDo t14 true (fun E=>DoX prog (mBin .lss 3 t16 (.int .i64 24)) w (pk K) E) w fun t17 w=>
 DoX prog (mPick t14 t17 (.bool false)) w (pk K) fun t18 w=>
 GDo t18 true (fun E=>DoX prog (mFA 42 t5 5) w (pk K) E) w fun t20 w=>
 GDo t18 true (fun E=>DoX prog (mLoad 40 t20) w (pk K) E) w fun t21 w=>
 GDo t18 true (fun E=>DoX prog (mB .len #[40] 3 #[false] #[t21]) w (pk K) E) w fun t22 w=>
 GDo t18 true (fun E=>DoX prog (mBin .geq 3 t22 (.int .i64 8191)) w (pk K) E) w fun t23 w=>
 DoX prog (mPick t18 t23 (.bool false)) w (pk K) fun t24 w=>
 IfX t24 (DoX prog (mIface 203 (.int .i64 6)) w (pk K) fun t25 w=>
 DoX prog (mPanic t25) w (pk K) fun _ w=>
 J2 [] w) (J2 [] w)) (fun vs2 w=>∀_:Sg,S_parse_reader_array_1 t0 t1 t5 t6 w N1 K))
def S_parse_reader_array (t0 t1:Value)(w:World)(K:Ending→World→Prop):Prop:=
 DoX prog (mAlloc 42) w (pk K) fun t4 w=>
 DoX prog (mBuild 42 #[(0,(.int .i64 6))]) w (pk K) fun t7 w=>
 DoX prog (mAlloc 42) w (pk K) fun t5 w=>
 DoX prog (mStore 42 t5 t7) w (pk K) fun _ w=>
 LoopX [] w (fun vs1 w N1=>∀_:Sg,S_parse_reader_array_0 t0 t1 t4 t5 w N1 K)
theorem S_parse_reader_array_eq (t0 t1:Value)(w:World)(K:Ending→World→Prop):wpX prog 35 [(7,[])] [(2,[])] none (bodyOf Tryz.f181) (topQ prog [.cell 4 42] K) (startX [t0,t1]) [] w=S_parse_reader_array t0 t1 w K:=by kernel_rfl
theorem S_parse_reader_array_ok {t0 t1:Value}{w:World}{K:Ending→World→Prop}(h:S_parse_reader_array t0 t1 w K):Calls prog 181 #[t0,t1] w K:=
 calls_of_wpX Tryz.func181 rfl rfl rfl rfl (Eq.mpr (S_parse_reader_array_eq t0 t1 w K) h)
def S_parse_reader_dict_3 (t0 t1 t5 t6:Value)(w:World)(N1:List Value→World→Prop)(K:Ending→World→Prop):Prop:=
 HeldX w (fun S5 w=>
 HDo prog S5 (mFA 53 t6 4) fun t40=>
 HDo prog S5 (mLoad 9 t40) fun t41=>
 CallX prog 151 #[t0] w (pm1 (pm1 (pm1 (pm1 (pm1 (pm1 (pk K))))))) fun t44 w=>
 S5 w∧(CallX prog 150 #[t0,t44,t1] w (pm1 (pm1 (pm1 (pm1 (pm1 (pm1 (pk K))))))) fun t46 w=>
 S5 w∧(DoX prog (mMapU 182 t5 t41 t46) w (pm1 (pm1 (pm1 (pm1 (pm1 (pm1 (pk K))))))) fun _ w=>
 S5 w∧(N1 [] w))))
def S_parse_reader_dict_2 (t4 t5 t9 t68 t69 t70:Value)(w:World)(N3:List Value→World→Prop)(K:Ending→World→Prop):Prop:=
 DoX prog (mBin .lss 3 t70 t69) w (pk K) fun t71 w=>
 IfX t71 (DoX prog (mIA 39 t68 t70) w (pk K) fun t72 w=>
 DoX prog (mLoad 9 t72) w (pk K) fun t73 w=>
 DoX prog (mFA 42 t9 5) w (pk K) fun t74 w=>
 DoX prog (mLoad 40 t74) w (pk K) fun t75 w=>
 DoX prog (mLook 182 t5 t73 false) w (pk K) fun t78 w=>
 DoX prog (mBuildS 40 1 #[(0,t78)]) w (pk K) fun t79 w=>
 DoX prog (mB .append #[40,40] 40 #[false,false] #[t75,t79]) w (pk K) fun t80 w=>
 DoX prog (mFA 42 t9 5) w (pk K) fun t81 w=>
 DoX prog (mStore 40 t81 t80) w (pk K) fun _ w=>
 DoX prog (mBin .add 3 t70 (.int .i64 1)) w (pk K) fun t82 w=>
 N3 [t82] w) (DoX prog (mLoad 42 t9) w (pk K) fun t83 w=>
 DoX prog (mStore 42 t4 t83) w (pk K) fun _ w=>
 RetX prog [.cell t4 42] w K)
def S_parse_reader_dict_1 (t4 t5 t9 t49:Value)(w:World)(N2:List Value→World→Prop)(K:Ending→World→Prop):Prop:=
 DoX prog (mNext t49 false 0) w (pk K) fun t50 w=>
 DoX prog (mExt t50 0) w (pk K) fun t51 w=>
 IfX t51 (DoX prog (mEntry t49) w (pk K) fun t52 w=>
 DoX prog (mExt t52 0) w (pk K) fun t53 w=>
 DoX prog (mExt t52 1) w (pk K) fun t54 w=>
 DoX prog (mAlloc 42) w (pk K) fun t11 w=>
 DoX prog (mStore 42 t11 t54) w (pk K) fun _ w=>
 DoX prog (mFA 42 t11 0) w (pk K) fun t55 w=>
 DoX prog (mLoad 3 t55) w (pk K) fun t56 w=>
 DoX prog (mEq .neq 3 (.tmp 56) (.const (.int .i64 0)) t56 (.int .i64 0)) w (pk K) fun t57 w=>
 IfX t57 (DoX prog (mFA 42 t9 4) w (pk K) fun t58 w=>
 DoX prog (mLoad 39 t58) w (pk K) fun t59 w=>
 DoX prog (mBuildS 39 1 #[(0,t53)]) w (pk K) fun t61 w=>
 DoX prog (mB .append #[39,39] 39 #[false,false] #[t59,t61]) w (pk K) fun t62 w=>
 DoX prog (mFA 42 t9 4) w (pk K) fun t63 w=>
 DoX prog (mStore 39 t63 t62) w (pk K) fun _ w=>
 N2 [] w) (N2 [] w)) (DoX prog (mFA 42 t9 4) w (pk K) fun t64 w=>
 DoX prog (mLoad 39 t64) w (pk K) fun t65 w=>
 CallX prog 148 #[t65] w (pk K) fun t66 w=>
 DoX prog (mFA 42 t9 4) w (pk K) fun t67 w=>
 DoX prog (mLoad 39 t67) w (pk K) fun t68 w=>
 DoX prog (mB .len #[39] 3 #[false] #[t68]) w (pk K) fun t69 w=>
 LoopX [(.int .i64 0)] w (fun vs3 w N3=>∀_:Sg,S_parse_reader_dict_2 t4 t5 t9 t68 t69 (vs3.getD 0 undef) w N3 K))
def S_parse_reader_dict_0 (t0 t1 t4 t5:Value)(w:World)(N1:List Value→World→Prop)(K:Ending→World→Prop):Prop:=
 CallX prog 151 #[t0] w (pk K) fun t16 w=>
 DoX prog (mAlloc 53) w (pk K) fun t6 w=>
 DoX prog (mStore 53 t6 t16) w (pk K) fun _ w=>
 DoX prog (mLoad 53 t6) w (pk K) fun t17 w=>
 CallX prog 209 #[t17,(.int .i64 6),(.string ⟨#[62,62]⟩)] w (pk K) fun t18 w=>
 IfX t18 (DoX prog (mBuild 42 #[(0,(.int .i64 7))]) w (pk K) fun t47 w=>
 DoX prog (mAlloc 42) w (pk K) fun t9 w=>
 DoX prog (mStore 42 t9 t47) w (pk K) fun _ w=>
 DoX prog (mRange 182 t5) w (pk K) fun t49 w=>
 LoopX [] w (fun vs2 w N2=>∀_:Sg,S_parse_reader_dict_1 t4 t5 t9 t49 w N2 K)) (DoX prog (mFA 53 t6 4) w (pk K) fun t21 w=>
 DoX prog (mLoad 9 t21) w (pk K) fun t22 w=>
 DoX prog (mLook 182 t5 t22 true) w (pk K) fun t23 w=>
 DoX prog (mExt t23 0) w (pk K) fun t24 w=>
 DoX prog (mExt t23 1) w (pk K) fun t25 w=>
 DoX prog (mAlloc 42) w (pk K) fun t7 w=>
 DoX prog (mStore 42 t7 t24) w (pk K) fun _ w=>
 JoinX (fun J4=>
 DoX prog (mFA 53 t6 0) w (pk K) fun t27 w=>
 DoX prog (mLoad 3 t27) w (pk K) fun t28 w=>
 DoX prog (mEq .neq 3 (.tmp 28) (.const (.int .i64 4)) t28 (.int .i64 4)) w (pk K) fun t29 w=>
 IfX t29 (DoX prog (mIface 203 (.int .i64 3)) w (pk K) fun t30 w=>
 DoX prog (mPanic t30) w (pk K) fun _ w=>
 J4 [] w) (IfX t25 (DoX prog (mIface 203 (.int .i64 9)) w (pk K) fun t33 w=>
 DoX prog (mPanic t33) w (pk K) fun _ w=>
 J4 [] w) (DoX prog (mB .len #[182] 3 #[false] #[t5]) w (pk K) fun t36 w=>
 DoX prog (mBin .geq 3 t36 (.int .i64 8191)) w (pk K) fun t37 w=>
 IfX t37 (DoX prog (mIface 203 (.int .i64 6)) w (pk K) fun t38 w=>
 DoX prog (mPanic t38) w (pk K) fun _ w=>
 J4 [] w) (J4 [] w)))) (fun vs4 w=>∀_:Sg,S_parse_reader_dict_3 t0 t1 t5 t6 w N1 K))
def S_parse_reader_dict (t0 t1:Value)(w:World)(K:Ending→World→Prop):Prop:=
 DoX prog (mAlloc 42) w (pk K) fun t4 w=>
 DoX prog (mMap 182 none) w (pk K) fun t14 w=>
 LoopX [] w (fun vs1 w N1=>∀_:Sg,S_parse_reader_dict_0 t0 t1 t4 t14 w N1 K)
theorem S_parse_reader_dict_eq (t0 t1:Value)(w:World)(K:Ending→World→Prop):wpX prog 84 [(11,[])] [(2,[]),(14,[]),(20,[70])] none (bodyOf Tryz.f182) (topQ prog [.cell 4 42] K) (startX [t0,t1]) [] w=S_parse_reader_dict t0 t1 w K:=by kernel_rfl
theorem S_parse_reader_dict_ok {t0 t1:Value}{w:World}{K:Ending→World→Prop}(h:S_parse_reader_dict t0 t1 w K):Calls prog 182 #[t0,t1] w K:=
 calls_of_wpX Tryz.func182 rfl rfl rfl rfl (Eq.mpr (S_parse_reader_dict_eq t0 t1 w K) h)
def S_parse_face (t0 r:Value)(w:World)(K:Ending→World→Prop):Prop:=
 DoX prog (mEq .eql 20 (.tmp 5) (.const .nilIface) r .nilIface) w (pk K) fun t7 w=>
 IfX t7 (K (.returned (.tuple #[])) w) (DoX prog (mTA r 20 203 true) w (pk K) fun t8 w=>
 DoX prog (mExt t8 1) w (pk K) fun t9 w=>
 DoX prog (mExt t8 0) w (pk K) fun t10 w=>
 IfX t9 (DoX prog (mNil t0) w (pk K) fun t13 w=>
 DoX prog (mStore 24 t13 t10) w (pk K) fun _ w=>
 K (.returned (.tuple #[])) w) (DoX prog (mPanic r) w (pk K) fun _ w=>
 K (.returned (.tuple #[])) w))
theorem S_parse_face_eq (t0 r:Value)(w:World)(K:Ending→World→Prop):wpX prog 14 [] [] none (sndOf (bodyOf Tryz.f149)) (topD prog [] K) (upd (startX [t0]) 5 r) [] w=S_parse_face t0 r w K:=by kernel_rfl
theorem S_parse_face_dok {t0:Value}{u:FrameMode}{w:World}{R:Ending→FrameMode→World→Prop}(h:S_parse_face t0 (recV u) w (fun e w=>R e (recM u) w)):CallsD prog 149 #[t0] u w R:=
 callsD_recover Tryz.func149 rfl rfl rfl rfl rfl rfl rfl rfl (Eq.mpr (S_parse_face_eq t0 (recV u) w _) h)
def S_parse_reader_read_p0 (x0:Value)(x1:Value)(K:Ending→World→Prop):=pd prog [.cell x0 42,.cell x1 24] K [{ target:=.fn (.func 149) #[],args:=#[x1] }]
def S_parse_reader_read (t0:Value)(w:World)(K:Ending→World→Prop):Prop:=
 DoX prog (mAlloc 42) w (pk K) fun t2 w=>
 DoX prog (mAlloc 24) w (pk K) fun t3 w=>
 CallX prog 151 #[t0] w (S_parse_reader_read_p0 t2 t3 K) fun t6 w=>
 CallX prog 150 #[t0,t6,(.int .i64 0)] w (S_parse_reader_read_p0 t2 t3 K) fun t7 w=>
 DoX prog (mStore 42 t2 t7) w (S_parse_reader_read_p0 t2 t3 K) fun _ w=>
 DoX prog (mStore 24 t3 (.int .i64 0)) w (S_parse_reader_read_p0 t2 t3 K) fun _ w=>
 Leave prog [.cell t2 42,.cell t3 24] K [{ target:=.fn (.func 149) #[],args:=#[t3] }] .returning w
theorem S_parse_reader_read_eq (t0:Value)(w:World)(K:Ending→World→Prop):wpX prog 8 [] [] none (bodyOf Tryz.f110) (topQ prog [.cell 2 42,.cell 3 24] K) (startX [t0]) [] w=S_parse_reader_read t0 w K:=by kernel_rfl
theorem S_parse_reader_read_ok {t0:Value}{w:World}{K:Ending→World→Prop}(h:S_parse_reader_read t0 w K):Calls prog 110 #[t0] w K:=
 calls_of_wpX Tryz.func110 rfl rfl rfl rfl (Eq.mpr (S_parse_reader_read_eq t0 w K) h)
def S_parse_Object (t0 t1:Value)(w:World)(K:Ending→World→Prop):Prop:=
 DoX prog (mAlloc 42) w (pk K) fun t4 w=>
 DoX prog (mBin .lss 3 t1 (.int .i64 0)) w (pk K) fun t11 w=>
 GDo t11 false (fun E=>E t1 w) w fun t13 w=>
 GDo t11 false (fun E=>E t0 w) w fun t14 w=>
 GDo t11 false (fun E=>DoX prog (mB .len #[9] 3 #[false] #[t14]) w (pk K) E) w fun t15 w=>
 GDo t11 false (fun E=>DoX prog (mBin .gtr 3 t13 t15) w (pk K) E) w fun t16 w=>
 DoX prog (mPick t11 (.bool true) t16) w (pk K) fun t17 w=>
 IfX t17 (DoX prog (mBuild 42 #[]) w (pk K) fun t18 w=>
 DoX prog (mStore 42 t4 t18) w (pk K) fun _ w=>
 RetX prog [.cell t4 42,.val (.int .i64 0),.val (.int .i64 1)] w K) (DoX prog (mBuild 144 #[(0,t0),(1,t1)]) w (pk K) fun t21 w=>
 DoX prog (mBox 144 t21) w (pk K) fun t22 w=>
 CallX prog 110 #[t22] w (pk K) fun t25 w=>
 DoX prog (mExt t25 0) w (pk K) fun t26 w=>
 DoX prog (mExt t25 1) w (pk K) fun t27 w=>
 DoX prog (mAlloc 42) w (pk K) fun t8 w=>
 DoX prog (mStore 42 t8 t26) w (pk K) fun _ w=>
 DoX prog (mEq .neq 24 (.tmp 28) (.const (.int .i64 0)) t27 (.int .i64 0)) w (pk K) fun t29 w=>
 IfX t29 (DoX prog (mBuild 42 #[]) w (pk K) fun t30 w=>
 DoX prog (mStore 42 t4 t30) w (pk K) fun _ w=>
 RetX prog [.cell t4 42,.val (.int .i64 0),.val t27] w K) (HeldX w (fun S1 w=>
 HDo prog S1 (mLoad 42 t8) fun t32=>
 HDo prog (fun _=>True) (mNil t22) fun t34=>
 HDo prog (fun _=>True) (mFA 144 t34 1) fun t35=>
 HDo prog S1 (mLoad 3 t35) fun t36=>
 DoX prog (mStore 42 t4 t32) w (pm1 (pm1 (pm1 (pm1 (pm1 (pm1 (pm1 (pk K)))))))) fun _ w=>
 S1 w∧(RetX prog [.cell t4 42,.val t36,.val (.int .i64 0)] w K))))
theorem S_parse_Object_eq (t0 t1:Value)(w:World)(K:Ending→World→Prop):wpX prog 37 [] [] none (bodyOf Tryz.f65) (topQ prog [.cell 4 42,.tmp 5,.tmp 6] K) (startX [t0,t1]) [] w=S_parse_Object t0 t1 w K:=by kernel_rfl
theorem S_parse_Object_ok {t0 t1:Value}{w:World}{K:Ending→World→Prop}(h:S_parse_Object t0 t1 w K):Calls prog 65 #[t0,t1] w K:=
 calls_of_wpX Tryz.func65 rfl rfl rfl rfl (Eq.mpr (S_parse_Object_eq t0 t1 w K) h)
end
section
open Eng Go.RowKit
 attribute [local congr] g_congr
section
variable {w:World}{PK:PKT}{K:VWP}{S:Nat→Prop}{w0:World}{L:List Ent}
theorem o_tkb (x:Lx.Tok)(ho:OwnS S w0 w L)(k:∀b w',OwnS S w0 w' (tokE b x::L)→K (.pointer (some ⟨b,0,none⟩)) w'):DoX prog (mBox 53 (tokV x)) w PK K:=
 o_new (fun b=>.pointer (some ⟨b,0,none⟩)) (tokC x) 53 (fun _=>by kernel_rfl) ho k
theorem tk_put (i:Nat){b:Nat}{x y:Lx.Tok}(ho:OwnS S w0 w L)(hi:L[i]?=some (tokE b x))(k:∀w',OwnS S w0 w' (L.set i (tokE b y))→K undef w') :
  DoX prog (mStore 53 (.pointer (some ⟨b,0,none⟩)) (tokV y)) w PK K:=o_put i ho hi (new:=tokC y) szTok (tokC_one y) rfl k
theorem tk_k (ho:OwnS S w0 w L)(i:Nat){b:Nat}{x:Lx.Tok}(hi:L[i]?=some (tokE b x)):DoX prog (mLoad 3 (.pointer (some ⟨b,0,none⟩))) w PK K=K (.int .i64 x.k) w:=l_cell nInt (ho.cell i hi 0 rfl)
theorem tk_a (ho:OwnS S w0 w L)(i:Nat){b:Nat}{x:Lx.Tok}(hi:L[i]?=some (tokE b x)):DoX prog (mLoad 3 (.pointer (some ⟨b,1,none⟩))) w PK K=K (.int .i64 x.a) w:=l_cell nInt (ho.cell i hi 1 rfl)
theorem tk_t (ho:OwnS S w0 w L)(i:Nat){b:Nat}{x:Lx.Tok}(hi:L[i]?=some (tokE b x)):DoX prog (mLoad 3 (.pointer (some ⟨b,2,none⟩))) w PK K=K (.int .i64 x.t) w:=l_cell nInt (ho.cell i hi 2 rfl)
theorem tk_n (ho:OwnS S w0 w L)(i:Nat){b:Nat}{x:Lx.Tok}(hi:L[i]?=some (tokE b x)):DoX prog (mLoad 2 (.pointer (some ⟨b,3,none⟩))) w PK K=K (.int .i64 x.n) w:=l_cell nI65 (ho.cell i hi 3 rfl)
theorem tk_s (ho:OwnS S w0 w L)(i:Nat){b:Nat}{x:Lx.Tok}(hi:L[i]?=some (tokE b x)):DoX prog (mLoad 9 (.pointer (some ⟨b,4,none⟩))) w PK K=K (.string ⟨x.s.toArray⟩) w:=l_cell nStr (ho.cell i hi 4 rfl)
theorem tk_v (ho:OwnS S w0 w L)(i:Nat){b:Nat}{x:Lx.Tok}(hi:L[i]?=some (tokE b x)):DoX prog (mLoad 53 (.pointer (some ⟨b,0,none⟩))) w PK K=K (tokV x) w:=l_at (ho.agg i hi aggTok)
theorem tkr_k (ho:OwnS S w0 w L)(i:Nat){b:Nat}{x:Lx.Tok}(hi:L[i]?=some (tokE b x)):(mLoad 3 (.pointer (some ⟨b,0,none⟩))).run prog w=.ok (.value (.int .i64 x.k)) w:=run_load_cell nInt (ho.cell i hi 0 rfl)
theorem ft0:fOff prog 53 0=some 0:=by kernel_rfl
theorem ft1:fOff prog 53 1=some 1:=by kernel_rfl
theorem ft4:fOff prog 53 4=some 4:=by kernel_rfl
theorem tk_new {f:Nat}{args:Array Value}{r:Lx.Tok×Int}{PK1 PK2 PK3 PK4 PK5:PKT}{K:Value→VWP}(ho:OwnS S w0 w L)(h:Ret prog f args w (fun v w'=>v=tokR r∧Below w.heap.size w w'))
  (k:∀b w',OwnS S w0 w' (tokE b r.1::L)→K (.int .i64 r.2) (.pointer (some ⟨b,0,none⟩)) w') :
  CallX prog f args w PK1 fun t w=>DoX prog (mExt t 0) w PK2 fun u w=>DoX prog (mExt t 1) w PK3 fun v w=>DoX prog (mAlloc 53) w PK4 fun q w=>DoX prog (mStore 53 q u) w PK5 fun _ w=>K v q w:=by
 refine c_below ho h ?_;rintro v w1 rfl ho;rw[tokR,x_0,x_1];refine o_tok ho fun b w2 ho=>?_;exact tk_put 0 ho rfl fun w3 ho=>k b w3 ho
end
theorem pfirst_ret (t:Lx.Tok)(w:World)(h0:t.k≠0):Ret prog 173 #[tokV t] w (fun v w'=>v=.bool (Ps.begins t)∧Below w.heap.size w w'):=by
 refine ret_of fun K hK=>S_parse_begins_ok ?_;unfold S_parse_begins;refine o_tkb t (Own.start w) fun b w1 ho=>?_;have fin:∀{q:Bool},q=Ps.begins t→K (.returned (.bool q)) w1:=fun e=>hK _ _ ⟨by rw[e],ho.done⟩;by_cases h6:t.k=6
 ·by_cases h1:t.s=[91]
  ·simp only[rs,fa_t0,fa_t4',tk_k ho 0 rfl,tk_s ho 0 rfl,h6,h1,decide_true,g_un,show ¬(6:Int)=5 by decide,decide_false];exact fin (by simp[Ps.begins,h6,h1])
  ·simp only[rs,fa_t0,fa_t4',tk_k ho 0 rfl,tk_s ho 0 rfl,h6,decide_eq_false h1,decide_true,g_un,show ¬(6:Int)=5 by decide,decide_false];exact fin (by simp[Ps.begins,h6,h1])
 by_cases h5:t.k=5
 ·by_cases h1:t.s=Ps.tru
  ·have h1':t.s=[116,114,117,101]:=h1;simp only[rs,fa_t0,fa_t4',tk_k ho 0 rfl,tk_s ho 0 rfl,h5,h1',decide_true,decide_false,g_un];exact fin (by simp[Ps.begins,h5,h1])
  have h1':¬t.s=[116,114,117,101]:=h1;by_cases h2:t.s=Ps.fal
  ·have h2':t.s=[102,97,108,115,101]:=h2;simp only[rs,fa_t0,fa_t4',tk_k ho 0 rfl,tk_s ho 0 rfl,h5,h2',decide_true,decide_false,g_un,show ¬([102,97,108,115,101]:List UInt8)=[116,114,117,101] by decide];exact fin (by simp[Ps.begins,h5,h2])
  have h2':¬t.s=[102,97,108,115,101]:=h2;simp only[rs,fa_t0,fa_t4',tk_k ho 0 rfl,tk_s ho 0 rfl,h5,decide_eq_false h1',decide_eq_false h2',decide_true,decide_false,g_un];exact fin (by simp[Ps.begins,h5,h1,h2];first|exact Iff.rfl|exact decide_eq_decide.2 Iff.rfl)
 ·simp only[rs,fa_t0,fa_t4',tk_k ho 0 rfl,tk_s ho 0 rfl,h6,h5,decide_true,decide_false,g_un];exact fin (by simp[Ps.begins,h6,h5,h0])
theorem pword_ret (t:Lx.Tok)(k:Int)(s:List UInt8)(w:World):Ret prog 209 #[tokV t,.int .i64 k,.string ⟨s.toArray⟩] w (fun v w'=>v=.bool (decide (t.k=k)&&decide (t.s=s))∧Below w.heap.size w w'):=by
 refine ret_of fun K hK=>S_parse_word_ok ?_;unfold S_parse_word;refine o_tkb t (Own.start w) fun b w1 ho=>?_;by_cases h:t.k=k
 ·simp only[rs,fa_t0,fa_t4',tk_k ho 0 rfl,tk_s ho 0 rfl,decide_eq_true h,g_un];exact hK _ _ ⟨by rw[decide_eq_true h,Bool.true_and],ho.done⟩
 ·simp only[rs,fa_t0,fa_t4',tk_k ho 0 rfl,tk_s ho 0 rfl,decide_eq_false h,g_un];exact hK _ _ ⟨by rw[decide_eq_false h,Bool.false_and],ho.done⟩
end
section
open Eng Go.RowKit
section
variable {w:World}{S:Nat→Prop}{w0:World}{L:List Ent}{PK:PKT}{K:VWP}
theorem o_obs1 (o:Ob){vk vc:Value}(hk:vk.oneCell'=true)(hc:vc.oneCell'=true)(ho:OwnS S w0 w L)(k:∀b w',OwnS S w0 w' (obE b o vk vc::L)→K (.slice (some ⟨b,0,none⟩) 1 1) w'):DoX prog (mBuildS 40 1 #[(0,obV o vk vc)]) w PK K:=by
 cases vk<;>first|(cases hk;done)|skip
 all_goals cases vc<;>first|(cases hc;done)|exact o_new (fun b=>.slice (some ⟨b,0,none⟩) 1 1) (obC o _ _) 42 (fun _=>by kernel_rfl) ho k
theorem o_strb1 (s:List UInt8)(ho:OwnS S w0 w L)(k:∀b w',OwnS S w0 w' (.cells b [.string ⟨s.toArray⟩] 9::L)→K (.slice (some ⟨b,0,none⟩) 1 1) w'):DoX prog (mBuildS 39 1 #[(0,.string ⟨s.toArray⟩)]) w PK K:=
 o_new (fun b=>.slice (some ⟨b,0,none⟩) 1 1) [.string ⟨s.toArray⟩] 9 (fun _=>by kernel_rfl) ho k
end
theorem strsV_app (a b:List (List UInt8)):strsV (a++b)=strsV a++strsV b:=by simp[strsV]
end
section
open Eng Go.RowKit
theorem Sl.from {w:World}{a:Option Addr}{n cap sz i:Nat}{cs:List Value}(h:Sl w (.slice a n cap) sz n cs)(hi:i≤n)(hc:n≤cap):Sl w (.slice (subA a i cap sz) (n - i) (cap - i)) sz (n - i) (cs.drop (i*sz)):=by
 obtain⟨hl,a',cap',e,h1,h2⟩:=h
 injection e with e1 _ e3
 subst e1;subst e3;refine⟨by rw[List.length_drop,hl,←Nat.mul_sub_right_distrib],subA a i cap sz,cap - i,rfl,?_,?_⟩
 ·intro hn;cases a with
 |none=>have:=h1 rfl;omega
 |some p=>unfold subA at hn;split at hn<;>simp at hn
 ·intro p hp;cases a with
 |none=>unfold subA at hp;split at hp<;>simp at hp
 |some q=>
   by_cases hci:cap=i
   ·have hn:n - i=0:=by omega
    refine⟨fun h=>by omega,fun j u hj=>?_⟩;have:(cs.drop (i*sz)).length=0:=by rw[List.length_drop,hl,←Nat.mul_sub_right_distrib,hn,Nat.zero_mul]
    have:=(List.getElem?_eq_some_iff.1 hj).1;omega
   ·unfold subA at hp;rw[if_neg hci,Option.map_some] at hp
    injection hp with hp
    have hsz:0 < n - i→q.spot=none:=fun h=>(h2 q rfl).1 (by omega);refine⟨fun h=>?_,fun j u hj=>?_⟩
    ·have hs:=hsz h;rw[←hp];obtain⟨b,off,spot⟩:=q;simp only at hs;subst hs;rw[add_none]
    ·rw[List.getElem?_drop] at hj;have hc2:=(h2 q rfl).2 (i*sz+j) u hj;have hjl:=(List.getElem?_eq_some_iff.1 hj).1;have hs:q.spot=none:=(h2 q rfl).1 (by
      rcases Nat.eq_zero_or_pos n with h0|h0
      ·rw[hl,h0,Nat.zero_mul] at hjl;omega
      ·exact h0)
     rw[←hp];obtain⟨b,off,spot⟩:=q;simp only at hs;subst hs;rw[add_none,Nat.add_assoc];exact hc2
end
section
open Eng Go.RowKit
theorem elStr:elB prog 9 1 16=true:=by kernel_rfl
theorem elOb:elB prog 42 6 88=true:=by kernel_rfl
theorem szStr:(Tryz.prog.info? 9).map (·.size)=some 1:=by kernel_rfl
section
variable {w:World}{S:Nat→Prop}{w0:World}{L:List Ent}{PK:PKT}{K:VWP}
theorem o_apS (i:Nat){v v2:Value}{n m:Nat}{xs news:List Value}{cb:Array Bool}(ho:OwnS S w0 w L)(hi:L[i]?=some (.urow 9 1 v n xs))(hs:Sl w v2 1 m news)(h1:∀u∈news,u.oneCell'=true)(hb:n+m≤1000000000000)
  (k:∀v' w',OwnS S w0 w' (L.set i (.urow 9 1 v' (n+m) (xs++news)))→K v' w'):DoX prog (mB .append #[39,39] 39 cb #[v,v2]) w PK K:=
 o_appendU i Tryz.underlying39 elStr (by decide) ho hi hs h1 (by omega) (by omega) k
theorem o_apO (i:Nat){v v2:Value}{n m:Nat}{xs news:List Value}{cb:Array Bool}(ho:OwnS S w0 w L)(hi:L[i]?=some (.urow 42 6 v n xs))(hs:Sl w v2 6 m news)(h1:∀u∈news,u.oneCell'=true)(hb:n+m≤1000000000000)
  (k:∀v' w',OwnS S w0 w' (L.set i (.urow 42 6 v' (n+m) (xs++news)))→K v' w'):DoX prog (mB .append #[40,40] 40 cb #[v,v2]) w PK K:=
 o_appendU i Tryz.underlying40 elOb (by decide) ho hi hs h1 (by omega) (by omega) k
end
end
section
namespace Eng
open Go.RowKit
def strK (k:List UInt8):Value:=.string ⟨k.toArray⟩
def MapIs (w:World)(b:Nat)(al:List (List UInt8×Value)):Prop:=∃es clock,w.heap[b]?=some (.map es clock)∧es.toList.map (fun e=>(e.key,e.val))=al.map fun p=>(strK p.1,p.2)
def lookA (al:List (List UInt8×Value))(k:List UInt8):Option Value:=(al.find? fun p=>decide (p.1=k)).map (·.2)
theorem findNow_str (k:List UInt8):∀(es:List MapEntry) (al:List (List UInt8×Value)) (i:Nat),es.map (fun e=>(e.key,e.val))=al.map (fun p=>(strK p.1,p.2)) →
  ∃r,Instr.findNow .string (strK k) es i=some r∧r.map (·.2)=lookA al k
|[],[],i,_=>⟨none,rfl,rfl⟩
|e::es,p::al,i,h=>by
  simp only[List.map_cons,List.cons.injEq,Prod.mk.injEq] at h;obtain⟨⟨h1,h2⟩,h3⟩:=h;have hs:Instr.sameNow .string (strK k) e.key=some (decide (k=p.1)):=by
   rw[h1];show some ((⟨k.toArray⟩:ByteArray)==⟨p.1.toArray⟩)=_
   congr 1
   show (k.toArray==p.1.toArray)=_;by_cases hk:k=p.1<;>simp[hk]
  by_cases hk:k=p.1
  ·refine⟨some (i,e.val),?_,?_⟩
   ·rw[Instr.findNow,hs];simp[hk]
   ·simp[lookA,hk,h2]
  ·obtain⟨r,hr1,hr2⟩:=findNow_str k es al (i+1) h3;refine⟨r,?_,?_⟩
   ·rw[Instr.findNow,hs];simp[hk,hr1]
   ·have hk':¬p.1=k:=fun e=>hk e.symm;rw[hr2];simp[lookA,hk']
|[],_::_,_,h=>by simp at h
|_::_,[],_,h=>by simp at h
section
variable {S:Nat→Prop}{P:Program}{w w0:World}{L:List Ent}{PK:PKT}{K:VWP}
theorem run_checkStr {k:TypeId}{e:Bool}(hk:P.underlying k=some .string)(x:List UInt8):(Instr.checkKey e 10000 k (strK x)).run P w=.ok () w:=by
 show (Instr.checkKey e (9999+1) k (strK x)).run P w=_;rw[Instr.checkKey];simp[run_underlying hk,strK]
theorem run_findStr {k:TypeId}(hk:P.underlying k=some .string)(x:List UInt8){es:List MapEntry}{al:List (List UInt8×Value)}(h:es.map (fun e=>(e.key,e.val))=al.map (fun p=>(strK p.1,p.2))) :
  ∃r,(Instr.findKey k (strK x) es).run P w=.ok r w∧r.map (·.2)=lookA al x:=by
 obtain⟨r,h1,h2⟩:=findNow_str x es al 0 h;refine⟨r,?_,h2⟩;simp[Instr.findKey,run_underlying hk,h1]
theorem run_look {T k e:TypeId}{ok:Bool}{b:Nat}{al:List (List UInt8×Value)}{z:Value}(ht:P.underlying T=some (.map k e))(hk:P.underlying k=some .string)(hz:(P.info? e).bind (·.zero)=some z)(h:MapIs w b al)(x:List UInt8) :
  (mLook T (.map (some b)) (strK x) ok).run P w=.ok (.value (if ok then .tuple #[(lookA al x).getD z,.bool (lookA al x).isSome] else (lookA al x).getD z)) w:=by
 obtain⟨es,clock,h1,h2⟩:=h;obtain⟨r,r1,r2⟩:=run_findStr (P:=P) (w:=w) hk x h2;have hz':(zeroValue e).run P w=.ok z w:=by
  obtain⟨i,hi,hzi⟩:=Option.bind_eq_some_iff.1 hz;simp[zeroValue,typeInfo,hi,hzi]
 refine mv_run ?_;rw[←r2];cases r with
|none=>simp[Instr.lookup,run_underlying ht,getObj,Sem.run,h1,run_checkStr hk x,r1,hz']
|some p=>
  obtain⟨i,v⟩:=p;simp[Instr.lookup,run_underlying ht,getObj,Sem.run,h1,run_checkStr hk x,r1]
end
theorem lookA_none {al:List (List UInt8×Value)}{k:List UInt8}:lookA al k=none↔k ∉ al.map (·.1):=by
 unfold lookA;rw[Option.map_eq_none_iff,List.find?_eq_none];exact⟨fun h hm=>by obtain⟨p,hp,rfl⟩:=List.mem_map.1 hm;simpa using h p hp,fun h p hp hc=>h (List.mem_map.2 ⟨p,hp,by simpa using hc⟩)⟩
end Eng
end
section
open Eng Go.RowKit
theorem Sl.cellAt {w:World}{b off cap sz n:Nat}{cs:List Value}(h:Sl w (.slice (some ⟨b,off,none⟩) n cap) sz n cs):∀j u,cs[j]?=some u→w.cell? ⟨b,off+j,none⟩=some u:=by
 obtain⟨_,a,cap',e,_,h2⟩:=h
 injection e with e1 _ _
 exact fun j u hj=>(h2 _ e1.symm).2 j u hj
end
end Go.Proofs.YtoofficgclghoaaGreatDoor

namespace Go.Proofs.YtoofficgclghoaaGreatDoor
section
open Eng Go.RowKit
theorem obV_inj {o p:Ob}{vk vc xk xc:Value}(h:obV o vk vc=obV p xk xc):vk=xk∧vc=xc:=by
 have:(obC o vk vc).toArray=(obC p xk xc).toArray:=by injection h
 have:obC o vk vc=obC p xk xc:=by simpa using congrArg Array.toList this
 simp only[obC,List.cons.injEq,and_true] at this;exact⟨this.2.2.2.2.1,this.2.2.2.2.2⟩
theorem OV.slices {A:Nat→Prop}{w:World}{o:Ob}{vk vc:Value}(h:OV A w (obV o vk vc) o):∃cs,ObAt A w o vk vc cs:=by
 obtain⟨xk,xc,cs,e,ha⟩:=h.open;obtain⟨rfl,rfl⟩:=obV_inj e;exact⟨cs,ha⟩
theorem OV.oneK {A:Nat→Prop}{w:World}{o:Ob}{vk vc:Value}(h:OV A w (obV o vk vc) o):vk.oneCell'=true:=by obtain⟨cs,ha⟩:=h.slices;exact ha.keys.one
theorem OV.oneC {A:Nat→Prop}{w:World}{o:Ob}{vk vc:Value}(h:OV A w (obV o vk vc) o):vc.oneCell'=true:=by obtain⟨cs,ha⟩:=h.slices;exact ha.kids.one
section
variable {w:World}{PK:PKT}{K:VWP}{S:Nat→Prop}{w0:World}{L:List Ent}
end
end
end Go.Proofs.YtoofficgclghoaaGreatDoor










namespace Go.Proofs.YtoofficgclghoaaGreatDoor
section
open Eng Go.RowKit
namespace Eng
def Ent.two (e f:Ent):Ent:=⟨fun k=>e.blk k∨f.blk k,fun w=>e.is w∧f.is w∧∀k,e.blk k→¬f.blk k,
 fun h k=>⟨e.keep h.1 fun b hb=>k b (.inl hb),f.keep h.2.1 fun b hb=>k b (.inr hb),h.2.2⟩,fun h k hk=>hk.elim (e.lt h.1 k) (f.lt h.2.1 k)⟩
section
variable {S:Nat→Prop}{w w0:World}{L:List Ent}
theorem OwnS.split {e f:Ent}(ho:OwnS S w0 w (.two e f::L)):OwnS S w0 w (e::f::L):=by
 obtain⟨⟨he,hf,hd⟩,hb⟩:=ho.all (.two e f) (by simp);obtain⟨a1,a2⟩:=List.pairwise_cons.1 ho.apart;refine⟨ho.grew,fun x hx=>?_,List.pairwise_cons.2 ⟨fun x hx k hk=>?_,List.pairwise_cons.2 ⟨fun x hx k hk=>a1 x hx k (.inr hk),a2⟩⟩⟩
 ·rcases List.mem_cons.1 hx with rfl|hx
  ·exact⟨he,fun k hk=>hb k (.inl hk)⟩
  rcases List.mem_cons.1 hx with rfl|hx
  ·exact⟨hf,fun k hk=>hb k (.inr hk)⟩
  ·exact ho.all x (List.mem_cons_of_mem _ hx)
 ·rcases List.mem_cons.1 hx with rfl|hx
  ·exact hd k hk
  ·exact a1 x hx k (.inl hk)
end
end Eng
section
variable {P:Program}{S:World→Prop}{K:Value→Prop}
theorem hd_do {m:Sem Next}(v:Value)(h:∀w,S w→m.run P w=.ok (.value v) w)(k:K v):HDo P S m K:=⟨v,h,k⟩
theorem hd_pure {m:Sem Next}(v:Value)(h:∀w,m.run P w=.ok (.value v) w)(k:K v):HDo P S m K:=⟨v,fun w _=>h w,k⟩
end
section
variable {w:World}{PK:PKT}{K:VWP}{S:Nat→Prop}{w0:World}{L:List Ent}
end
end
section
namespace Eng
open Go.RowKit
section
variable {S:Nat→Prop}{P:Program}{w w0:World}{L:List Ent}{PK:PKT}{K:VWP}
theorem OwnS.pair {e f:Ent}(ho:OwnS S w0 w (e::f::L)):OwnS S w0 w (.two e f::L):=by
 obtain⟨a1,a2⟩:=List.pairwise_cons.1 ho.apart;obtain⟨a3,a4⟩:=List.pairwise_cons.1 a2;have h1:=ho.all e (by simp);have h2:=ho.all f (by simp);refine⟨ho.grew,fun x hx=>?_,List.pairwise_cons.2 ⟨fun x hx k hk=>?_,a4⟩⟩
 ·rcases List.mem_cons.1 hx with rfl|hx
  ·exact⟨⟨h1.1,h2.1,a1 f (by simp)⟩,fun k hk=>hk.elim (h1.2 k) (h2.2 k)⟩
  ·exact ho.all x (by simp[hx])
 ·rcases hk with hk|hk
  ·exact a1 x (by simp[hx]) k hk
  ·exact a3 x hx k hk
structure Lent (P:Program) (f:Nat) (args:Array Value) (e:Ent) (M:Mem) (w:World) (ok:Prop) (e':Ent) (R:Value→Mem→Prop) (c:List PanicEntry):Prop where
 ret:ok→Ret P f args w (fun v w'=>∃N,M.le N∧R v N∧Turn (.two e (.mem M)) (.two e' (.mem N)) w w')
 pan:¬ok→Pan P f args w (fun c' w'=>c'=c∧∃e2,Turn (.two e (.mem M)) (.two e2 (.mem M)) w w')
theorem lent_of {f:Nat}{args:Array Value}{e e':Ent}{M:Mem}{ok:Prop}{R:Value→Mem→Prop}{c:List PanicEntry}
  (h:∀K:Ending→World→Prop,OwnS (Ent.two e (.mem M)).blk w w [e,.mem M] →
   (ok→∀(v:Value) (N:Mem) (w':World) (L:List Ent),OwnS (Ent.two e (.mem M)).blk w w' (e'::.mem N::L)→M.le N→R v N→K (.returned v) w') →
   (¬ok→∀(e2:Ent) (N:Mem) (w':World) (L:List Ent),OwnS (Ent.two e (.mem M)).blk w w' (e2::.mem N::L)→M.le N→K (.panicked c) w')→Calls P f args w K)
  (h0:(Ent.two e (.mem M)).is w):Lent P f args e M w ok e' R c:=by
 have ho:OwnS (Ent.two e (.mem M)).blk w w [e,.mem M]:=(OwnS.lend h0).split;constructor
 ·intro hk;refine ret_of fun K hK=>h K ho (fun _ v N w' L hw hle hr=>hK _ _ ⟨N,hle,hr,OwnS.back hw.pair⟩) fun hn=>absurd hk hn
 ·intro hn;refine pan_of fun K hK=>h K ho (fun hk=>absurd hk hn) fun _ e2 N w' L hw hle=>?_;refine hK _ _ ⟨rfl,e2,?_⟩;have hb:=OwnS.back hw.pair;refine⟨hb.grew,?_,fun k hk=>hb.new k (hk.elim .inl fun hm=>.inr (hle.A k hm))⟩;obtain⟨i1,i2,i3⟩:=hb.is;exact⟨i1,Mem.has_of hle i2,fun k hk hm=>i3 k hk (hle.A k hm)⟩
end
end Eng
end
section
open Eng Go.RowKit
abbrev keyE (v:Value)(ks:List (List UInt8)):Ent:=.urow 9 1 v ks.length (strsV ks)
abbrev kidE (v:Value)(n:Nat)(cs:List Value):Ent:=.urow 42 6 v n cs
section
variable {w:World}{S:Nat→Prop}{w0:World}{L:List Ent}{PK PK2:PKT}{K:VWP}
theorem key_row (i:Nat){v:Value}{ks:List (List UInt8)}(ho:OwnS S w0 w L)(hi:L[i]?=some (keyE v ks)){j:Nat}(hj:j < ks.length):∃g cap,v=.slice (some ⟨g,0,none⟩) ks.length cap ∧
  (∀w,(mIA 39 v (.int .i64 (j:Int))).run prog w=.ok (.value (.pointer (some ⟨g,j,none⟩))) w)∧∀w',(keyE v ks).is w'→(mLoad 9 (.pointer (some ⟨g,j,none⟩))).run prog w'=.ok (.value (.string ⟨ks[j].toArray⟩)) w':=by
 obtain⟨g,cap,rfl⟩:=urow_open (ho.at_ i hi) (by omega);refine⟨g,cap,rfl,fun w=>?_,fun w' h=>?_⟩
 ·refine (run_ia Tryz.underlying39 szStr (by omega) (by omega)).trans ?_;rw[Int.toNat_natCast,Nat.mul_one,Nat.zero_add]
 ·obtain⟨b,off,cap',e,hc⟩:=sl_open (Sl.urow h) (by omega);cases e;exact run_load_cell nStr5 (by have:=hc j _ (strsV_get hj);rwa [Nat.zero_add] at this)
end
end
section
open Eng Go.RowKit
def objR (e:Ps.R)(v:Value)(N:Mem):Prop:=∃u,v=.tuple #[u,.int .i64 e.2.1,.int .i64 e.2.2]∧OV N.A N.w u e.1
theorem ob0_ov2 {A:Nat→Prop}{w:World}:OV A w (obV Vl.ob0 nilS nilS) Vl.ob0:=ObAt.ov (o:=Vl.ob0) ⟨SlA.nil _ _ _ _,SlA.nil _ _ _ _,OVs.nil⟩
section
variable {w:World}{S:Nat→Prop}{w0:World}{L:List Ent}
theorem ret_bad {KE:Ending→World→Prop}{PK PK2:PKT}(i:Nat){b:Nat}{o:Ob}{vk vc:Value}{e:Int}(ho:OwnS S w0 w L)(hi:L[i]?=some (obE b o vk vc))
  (k:∀w',OwnS S w0 w' (L.set i (obE b Vl.ob0 nilS nilS))→KE (.returned (.tuple #[obV Vl.ob0 nilS nilS,.int .i64 0,.int .i64 e])) w') :
  DoX prog (mBuild 42 #[]) w PK fun t w=>DoX prog (mStore 42 (.pointer (some ⟨b,0,none⟩)) t) w PK2 fun _ w=>RetX prog [.cell (.pointer (some ⟨b,0,none⟩)) 42,.val (.int .i64 0),.val (.int .i64 e)] w KE:=by
 rw[m_ob0];refine ob_put i rfl rfl ho hi fun w' ho=>?_;have hil:i < L.length:=(List.getElem?_eq_some_iff.1 hi).1;have hi2:(L.set i (obE b Vl.ob0 nilS nilS))[i]?=some (obE b Vl.ob0 nilS nilS):=by simp[hil]
 exact ret_v3 (rv_cell (ho.agg i hi2 aggOb)) rv_val rv_val (k w' ho)
end
end
section
open Go
namespace Wr
open Lx (Single next)
theorem sg_of {u:List UInt8}{k:Int}{t:Nat}{n:Int}{s:List UInt8}(h:next u 0=(⟨k,0,t,n,s⟩,0))(ht:t=u.length)(hk:k≠0):∃x,Single u x:=⟨_,h,hk,rfl,by simp[ht]⟩
theorem sg_num {n:Int}(h1:-2147483647≤n)(h2:n≤2147483647):∃x,Single (num n) x:=by
 have e:num n=Lib.itoa n:=by unfold num Pl.pInt;rw[if_pos ⟨h1,h2⟩]
 rw[e];exact sg_of (Lx.itoa_next h1 h2) rfl (by decide)
theorem sg_name {l:List UInt8}(h:Vl.name l=true):∃x,Single (Pl.pName l).1 x:=by
 unfold Vl.name at h;simp only[Bool.and_eq_true,decide_eq_true_eq] at h;have e:(Pl.pName l).1=Pl.name l:=by unfold Pl.pName;rw[if_neg (by omega),if_neg (by simpa using h.2)]
 rw[e];exact sg_of (Lx.name_next h.1 h.2) rfl (by decide)
theorem sg_str {l:List UInt8}(h:l.length≤32767):∃x,Single (Pl.pStr l).1 x:=by
 have e:(Pl.pStr l).1=Pl.str l:=by unfold Pl.pStr;rw[if_neg (by omega)]
 rw[e];exact sg_of (Lx.str_next h) rfl (by decide)
theorem sg_real {n:Int}(h:Fx.okB n=true):∃x,Single (Pl.pReal n).1 x:=by
 have e:(Pl.pReal n).1=Fx.text n:=by unfold Pl.pReal;rw[if_pos h]
 rw[e];exact sg_of (Lx.text_next h) rfl (by decide)
theorem sg_R:∃x,Single [82] x:=⟨(next [82] 0).1,by unfold Single;decide +kernel⟩
theorem sg_a:∃x,Single [91] x:=⟨(next [91] 0).1,by unfold Single;decide +kernel⟩
theorem sg_b:∃x,Single [93] x:=⟨(next [93] 0).1,by unfold Single;decide +kernel⟩
theorem sg_c:∃x,Single [60,60] x:=⟨(next [60,60] 0).1,by unfold Single;decide +kernel⟩
theorem sg_d:∃x,Single [62,62] x:=⟨(next [62,62] 0).1,by unfold Single;decide +kernel⟩
theorem sg_nul:∃x,Single nul x:=⟨(next nul 0).1,by unfold Single;decide +kernel⟩
theorem sg_tru:∃x,Single tru x:=⟨(next tru 0).1,by unfold Single;decide +kernel⟩
theorem sg_fal:∃x,Single fal x:=⟨(next fal 0).1,by unfold Single;decide +kernel⟩
theorem form_name {o:Ob}(h:Vl.form o=true)(k5:o.k=5):Vl.name o.s=true:=by
 have:=h;simp only[Vl.form,k5,decide_true,Bool.not_true,Bool.false_or,Bool.and_eq_true] at this;exact this.1
theorem form_keys {o:Ob}(h:Vl.form o=true)(k7:o.k=7):o.keys.length=o.kids.length∧∀key∈o.keys,Vl.name key=true:=by
 have hf:=h;simp only[Vl.form,k7,true_or,decide_true,Bool.not_true,Bool.false_or,Bool.and_eq_true] at hf;have h2:=hf.2;simp only[Vl.rising,Bool.and_eq_true,decide_eq_true_eq] at h2;refine⟨h2.1,fun key hk=>?_⟩;obtain⟨i,hi,rfl⟩:=List.getElem_of_mem hk;have:=List.all_eq_true.1 h2.2 i (List.mem_range.2 hi);unfold Vl.keyAt at this;simp only[Bool.and_eq_true] at this;have e:o.keys.getD i []=o.keys[i]:=by rw[List.getD_eq_getElem?_getD,List.getElem?_eq_getElem hi];rfl
 rw[e] at this;exact this.1.1.1
theorem why_parts {d:Nat}{o:Ob}(h:Vl.check d o=0):Vl.usesOk o=true∧¬(o.k=9∧1 < d)∧Vl.fits o=true∧o.s.length≤Vl.long o.k∧Vl.form o=true:=by
 have h:=check_why h;unfold Vl.why at h;split at h
 ·cases h
 split at h
 ·cases h
 split at h
 ·cases h
 split at h
 ·cases h
 split at h
 ·cases h
 split at h
 ·cases h
 rename_i h1 h2 h3 h4 h5 h6
 rw[not_or] at h2;exact⟨by simpa using h2.1,h2.2,by simpa using h3,by omega,by simpa using h6⟩
theorem leaf_single {d:Nat}{o:Ob}(h:Vl.check d o=0):∃x,Single (leaf o.k o.n o.s) x:=by
 obtain⟨_,_,hf,hl,hm⟩:=why_parts h;unfold leaf;split
 ·split
  ·exact sg_fal
  ·exact sg_tru
 split
 ·rename_i h1 h2
  have:-2147483647≤o.n∧o.n≤2147483647:=by simpa[Vl.fits,h2] using hf
  exact sg_num this.1 this.2
 split
 ·rename_i h1 h2 h3
  have:-1073741824≤o.n∧o.n≤1073741824:=by simpa[Vl.fits,h3] using hf
  exact sg_real (by simp[Fx.okB];omega)
 split
 ·rename_i h1 h2 h3 h4
  have:Vl.long o.k=32767:=by rw[h4];rfl
  exact sg_str (by omega)
 split
 ·rename_i h1 h2 h3 h4 h5
  exact sg_name (form_name hm h5)
 ·exact sg_nul
 mutual
theorem parts_single:∀(o:Ob) (d:Nat),Vl.check d o=0→∀p∈parts o,∃x,Single p x
|.mk k n g s keys kids,d,h=>by
  have hk:=check_kids h;obtain⟨_,_,hf,_,hm⟩:=why_parts h;have hleaf:=leaf_single h;have h1:=partsL_single kids (d+1) hk;intro p hp;rw[parts] at hp;split at hp
  ·rename_i k8
   have hn:(1≤n∧n≤8191)∧(0≤g∧g≤65535):=by
    have k8:(Ob.mk k n g s keys kids).k=8:=k8;simp[Vl.fits,k8,Ob.n,Ob.g] at hf;exact⟨of_decide_eq_true hf.1,of_decide_eq_true hf.2⟩
   simp only[List.mem_cons,List.not_mem_nil,or_false] at hp;rcases hp with rfl|rfl|rfl
   ·exact sg_num (by omega) (by omega)
   ·exact sg_num (by omega) (by omega)
   ·exact sg_R
  split at hp
  ·simp only[List.mem_cons,List.mem_append,List.not_mem_nil,or_false] at hp;rcases hp with rfl|hp|rfl
   ·exact sg_a
   ·exact h1 p hp
   ·exact sg_b
  split at hp
  ·rename_i k8 k6 k7
   obtain⟨_,hkeys⟩:=form_keys hm k7;simp only[List.mem_cons,List.mem_append,List.not_mem_nil,or_false] at hp;rcases hp with rfl|hp|rfl
   ·exact sg_c
   ·exact partsD_single kids (d+1) hk keys hkeys p hp
   ·exact sg_d
  ·simp only[List.mem_singleton] at hp;subst hp;exact hleaf
theorem partsL_single:∀(os:List Ob) (d:Nat),(∀x∈os,Vl.check d x=0)→∀p∈partsL os,∃x,Single p x
|[],_,_=>by simp[partsL]
|o::os,d,h=>by
  intro p hp;rw[partsL,List.mem_append] at hp;rcases hp with hp|hp
  ·exact parts_single o d (h o (by simp)) p hp
  ·exact partsL_single os d (fun x hx=>h x (by simp[hx])) p hp
theorem partsD_single:∀(os:List Ob) (d:Nat),(∀x∈os,Vl.check d x=0)→∀(keys:List (List UInt8)),(∀key∈keys,Vl.name key=true)→∀p∈partsD keys os,∃x,Single p x
|[],_,_,_,_=>by simp[partsD]
|o::os,d,h,keys,hkeys=>by
  intro p hp;cases keys with
 |nil=>rw[partsD] at hp;cases hp
 |cons key ks=>
   rw[partsD,List.mem_cons,List.mem_append] at hp;rcases hp with rfl|hp|hp
   ·exact sg_name (hkeys key (by simp))
   ·exact parts_single o d (h o (by simp)) p hp
   ·exact partsD_single os d (fun x hx=>h x (by simp[hx])) ks (fun k hk=>hkeys k (by simp[hk])) p hp
end
end Wr
end
section
open Go
structure Lx where
 off:Int
 sty:List UInt8
 pre:List UInt8
 first:Int
 deriving DecidableEq
namespace Lb
end Lb
end
end Go.Proofs.YtoofficgclghoaaGreatDoor









namespace Go.Proofs.YtoofficgclghoaaGreatDoor
section
open Eng
def S_foliantref05_Texts_0 (t0 t1 t12 t13:Value)(w:World)(N1:List Value→World→Prop)(K:Ending→World→Prop):Prop:=
 DoX prog (mBin .lss 3 t13 t12) w (pk K) fun t14 w=>
 IfX t14 (QuietX w (fun C2=>
 QDo prog C2 (mIA 39 t0 t13) fun t18=>
 QDo prog C2 (mLoad 9 t18) fun t19=>
 QDo prog C2 (mIA 39 t1 t13) fun t22=>
 QDo prog C2 (mLoad 9 t22) fun t23=>
 QDo prog C2 (mEq .neq 9 (.tmp 19) (.tmp 23) t19 t23) fun t24=>
 ∀w,C2 w →
 IfX t24 (K (.returned (.bool false)) w) (DoX prog (mBin .add 3 t13 (.int .i64 1)) w (pk K) fun t25 w=>
 N1 [t25] w))) (K (.returned (.bool true)) w)
def S_foliantref05_Texts (t0 t1:Value)(w:World)(K:Ending→World→Prop):Prop:=
 DoX prog (mB .len #[39] 3 #[false] #[t0]) w (pk K) fun t7 w=>
 DoX prog (mB .len #[39] 3 #[false] #[t1]) w (pk K) fun t9 w=>
 DoX prog (mEq .neq 3 (.tmp 7) (.tmp 9) t7 t9) w (pk K) fun t10 w=>
 IfX t10 (K (.returned (.bool false)) w) (DoX prog (mB .len #[39] 3 #[false] #[t0]) w (pk K) fun t12 w=>
 LoopX [(.int .i64 0)] w (fun vs1 w N1=>∀_:Sg,S_foliantref05_Texts_0 t0 t1 t12 (vs1.getD 0 undef) w N1 K))
theorem S_foliantref05_Texts_eq (t0 t1:Value)(w:World)(K:Ending→World→Prop):wpX prog 26 [] [(4,[13])] none (bodyOf Tryz.f82) (topQ prog [.tmp 4] K) (startX [t0,t1]) [] w=S_foliantref05_Texts t0 t1 w K:=by kernel_rfl
theorem S_foliantref05_Texts_ok {t0 t1:Value}{w:World}{K:Ending→World→Prop}(h:S_foliantref05_Texts t0 t1 w K):Calls prog 82 #[t0,t1] w K:=
 calls_of_wpX Tryz.func82 rfl rfl rfl rfl (Eq.mpr (S_foliantref05_Texts_eq t0 t1 w K) h)
end
section
open Eng Go.RowKit
theorem nStrT:notAgg prog 9=true:=by kernel_rfl
theorem rtexts_ret (va vb:Value)(la lb:List (List UInt8))(w:World)(ha:Sl w va 1 la.length (strsV la))(hb:Sl w vb 1 lb.length (strsV lb))(hl:la.length≤1099511627776) :
  Ret prog 82 #[va,vb] w (fun r w'=>r=.bool (decide (la=lb))∧Below w.heap.size w w'):=by
 refine ret_of fun K hK=>S_foliantref05_Texts_ok ?_;unfold S_foliantref05_Texts;rw[sl_len Tryz.underlying39 ha,sl_len Tryz.underlying39 hb];simp only[rs];by_cases hlen:(la.length:Int)≠(lb.length:Int)
 ·simp only[decide_eq_true hlen,i_t];have hne:la≠lb:=fun e=>hlen (by rw[e]);exact hK _ _ ⟨by rw[decide_eq_false hne],(Own.start w).done⟩
 have hle:la.length=lb.length:=by omega
 simp only[decide_eq_false hlen,i_f,sl_len Tryz.underlying39 ha];refine loop (fun vs w'=>∃(i:Nat),vs=[.int .i64 i]∧i≤la.length∧la.take i=lb.take i∧Own w w' []) (fun vs _=>la.length - n0 vs) ⟨0,rfl,by omega,by simp,Own.start w⟩ ?_;rintro vs w2 ⟨i,rfl,hi,he,ho⟩ _;simp only[S_foliantref05_Texts_0,gd,rs];by_cases hlt:(i:Int) < (la.length:Int)
 ·have h1:i < la.length:=by omega
  have h2:i < lb.length:=by omega
  simp only[hlt,decide_true,rs];obtain⟨ba,oa,ca,rfl,hca⟩:=sl_open ha (by omega);obtain⟨bb,ob,cb,rfl,hcb⟩:=sl_open hb (by omega);refine quiet (q_do _ (fun _=>run_ia Tryz.underlying39 (show _=some 1 by kernel_rfl) (by omega) (by omega)) ?_);refine q_at (.string ⟨(la[i]).toArray⟩) (fun wc hw=>run_load_cell nStrT ((ho.grow hw).old ?_)) ?_
  ·rw[Int.toNat_natCast,Nat.mul_one];exact hca i _ (strsV_get h1)
  refine q_do _ (fun _=>run_ia Tryz.underlying39 (show _=some 1 by kernel_rfl) (by omega) (by omega)) ?_;refine q_at (.string ⟨(lb[i]).toArray⟩) (fun wc hw=>run_load_cell nStrT ((ho.grow hw).old ?_)) ?_
  ·rw[Int.toNat_natCast,Nat.mul_one];exact hcb i _ (strsV_get h2)
  refine q_sne ?_;intro w3 hw;have ho:=ho.grow hw;by_cases hq:la[i]=lb[i]
  ·simp only[hq,ne_eq,not_true,decide_false,i_f,rs];rw[wrap64_id (by omega) (by omega)];refine nextX ⟨i+1,rfl,by omega,?_,ho⟩ (by simp[n0,RowKit.intOf];omega);rw[List.take_succ_eq_append_getElem h1,List.take_succ_eq_append_getElem h2,he,hq]
  ·simp only[hq,ne_eq,not_false_eq_true,decide_true,i_t];have hne:la≠lb:=fun e=>hq (by subst e;rfl);exact hK _ _ ⟨by rw[decide_eq_false hne],ho.done⟩
 ·simp only[hlt,decide_false,rs,g_un];have hab:la=lb:=by
   rw[List.take_of_length_le (by omega),List.take_of_length_le (by omega)] at he;exact he
  exact hK _ _ ⟨by rw[decide_eq_true hab],ho.done⟩
end
section
open Eng
def S_foliantref05_Same (t0 t1:Value)(w:World)(K:Ending→World→Prop):Prop:=
 DoX prog (mBox 42 t0) w (pk K) fun t2 w=>
 DoX prog (mBox 42 t1) w (pk K) fun t3 w=>
 DoX prog (mFA 42 t2 0) w (pk K) fun t5 w=>
 DoX prog (mLoad 3 t5) w (pk K) fun t6 w=>
 DoX prog (mFA 42 t3 0) w (pk K) fun t7 w=>
 DoX prog (mLoad 3 t7) w (pk K) fun t8 w=>
 DoX prog (mEq .eql 3 (.tmp 6) (.tmp 8) t6 t8) w (pk K) fun t9 w=>
 GDo t9 true (fun E=>DoX prog (mFA 42 t2 1) w (pk K) E) w fun t11 w=>
 GDo t9 true (fun E=>DoX prog (mLoad 2 t11) w (pk K) E) w fun t12 w=>
 GDo t9 true (fun E=>DoX prog (mFA 42 t3 1) w (pk K) E) w fun t13 w=>
 GDo t9 true (fun E=>DoX prog (mLoad 2 t13) w (pk K) E) w fun t14 w=>
 GDo t9 true (fun E=>DoX prog (mEq .eql 2 (.tmp 12) (.tmp 14) t12 t14) w (pk K) E) w fun t15 w=>
 DoX prog (mPick t9 t15 (.bool false)) w (pk K) fun t16 w=>
 GDo t16 true (fun E=>DoX prog (mFA 42 t2 2) w (pk K) E) w fun t18 w=>
 GDo t16 true (fun E=>DoX prog (mLoad 3 t18) w (pk K) E) w fun t19 w=>
 GDo t16 true (fun E=>DoX prog (mFA 42 t3 2) w (pk K) E) w fun t20 w=>
 GDo t16 true (fun E=>DoX prog (mLoad 3 t20) w (pk K) E) w fun t21 w=>
 GDo t16 true (fun E=>DoX prog (mEq .eql 3 (.tmp 19) (.tmp 21) t19 t21) w (pk K) E) w fun t22 w=>
 DoX prog (mPick t16 t22 (.bool false)) w (pk K) fun t23 w=>
 GDo t23 true (fun E=>DoX prog (mFA 42 t2 3) w (pk K) E) w fun t25 w=>
 GDo t23 true (fun E=>DoX prog (mLoad 9 t25) w (pk K) E) w fun t26 w=>
 GDo t23 true (fun E=>DoX prog (mFA 42 t3 3) w (pk K) E) w fun t27 w=>
 GDo t23 true (fun E=>DoX prog (mLoad 9 t27) w (pk K) E) w fun t28 w=>
 GDo t23 true (fun E=>DoX prog (mEq .eql 9 (.tmp 26) (.tmp 28) t26 t28) w (pk K) E) w fun t29 w=>
 DoX prog (mPick t23 t29 (.bool false)) w (pk K) fun t30 w=>
 GDo t30 true (fun E=>DoX prog (mFA 42 t2 4) w (pk K) E) w fun t32 w=>
 GDo t30 true (fun E=>DoX prog (mLoad 39 t32) w (pk K) E) w fun t33 w=>
 GDo t30 true (fun E=>DoX prog (mFA 42 t3 4) w (pk K) E) w fun t34 w=>
 GDo t30 true (fun E=>DoX prog (mLoad 39 t34) w (pk K) E) w fun t35 w=>
 GDo t30 true (fun E=>CallX prog 82 #[t33,t35] w (pk K) E) w fun t36 w=>
 DoX prog (mPick t30 t36 (.bool false)) w (pk K) fun t37 w=>
 GDo t37 true (fun E=>DoX prog (mFA 42 t2 5) w (pk K) E) w fun t39 w=>
 GDo t37 true (fun E=>DoX prog (mLoad 40 t39) w (pk K) E) w fun t40 w=>
 GDo t37 true (fun E=>DoX prog (mFA 42 t3 5) w (pk K) E) w fun t41 w=>
 GDo t37 true (fun E=>DoX prog (mLoad 40 t41) w (pk K) E) w fun t42 w=>
 GDo t37 true (fun E=>CallX prog 24 #[t40,t42] w (pk K) E) w fun t43 w=>
 DoX prog (mPick t37 t43 (.bool false)) w (pk K) fun t44 w=>
 K (.returned t44) w
theorem S_foliantref05_Same_eq (t0 t1:Value)(w:World)(K:Ending→World→Prop):wpX prog 45 [] [] none (bodyOf Tryz.f48) (topQ prog [.tmp 4] K) (startX [t0,t1]) [] w=S_foliantref05_Same t0 t1 w K:=by kernel_rfl
theorem S_foliantref05_Same_ok {t0 t1:Value}{w:World}{K:Ending→World→Prop}(h:S_foliantref05_Same t0 t1 w K):Calls prog 48 #[t0,t1] w K:=
 calls_of_wpX Tryz.func48 rfl rfl rfl rfl (Eq.mpr (S_foliantref05_Same_eq t0 t1 w K) h)
def S_foliantref05_List_0 (t0 t1 t12 t13:Value)(w:World)(N1:List Value→World→Prop)(K:Ending→World→Prop):Prop:=
 DoX prog (mBin .lss 3 t13 t12) w (pk K) fun t14 w=>
 IfX t14 (QuietX w (fun C2=>
 QDo prog C2 (mIA 40 t0 t13) fun t18=>
 QDo prog C2 (mLoad 42 t18) fun t19=>
 QDo prog C2 (mIA 40 t1 t13) fun t22=>
 QDo prog C2 (mLoad 42 t22) fun t23=>
 QCall prog C2 48 #[t19,t23] fun t24=>
 QDo prog C2 (mUn .not t24) fun t25=>
 ∀w,C2 w →
 IfX t25 (K (.returned (.bool false)) w) (DoX prog (mBin .add 3 t13 (.int .i64 1)) w (pk K) fun t26 w=>
 N1 [t26] w))) (K (.returned (.bool true)) w)
def S_foliantref05_List (t0 t1:Value)(w:World)(K:Ending→World→Prop):Prop:=
 DoX prog (mB .len #[40] 3 #[false] #[t0]) w (pk K) fun t7 w=>
 DoX prog (mB .len #[40] 3 #[false] #[t1]) w (pk K) fun t9 w=>
 DoX prog (mEq .neq 3 (.tmp 7) (.tmp 9) t7 t9) w (pk K) fun t10 w=>
 IfX t10 (K (.returned (.bool false)) w) (DoX prog (mB .len #[40] 3 #[false] #[t0]) w (pk K) fun t12 w=>
 LoopX [(.int .i64 0)] w (fun vs1 w N1=>∀_:Sg,S_foliantref05_List_0 t0 t1 t12 (vs1.getD 0 undef) w N1 K))
theorem S_foliantref05_List_eq (t0 t1:Value)(w:World)(K:Ending→World→Prop):wpX prog 27 [] [(4,[13])] none (bodyOf Tryz.f24) (topQ prog [.tmp 4] K) (startX [t0,t1]) [] w=S_foliantref05_List t0 t1 w K:=by kernel_rfl
theorem S_foliantref05_List_ok {t0 t1:Value}{w:World}{K:Ending→World→Prop}(h:S_foliantref05_List t0 t1 w K):Calls prog 24 #[t0,t1] w K:=
 calls_of_wpX Tryz.func24 rfl rfl rfl rfl (Eq.mpr (S_foliantref05_List_eq t0 t1 w K) h)
end
end Go.Proofs.YtoofficgclghoaaGreatDoor


namespace Go.Proofs.YtoofficgclghoaaGreatDoor
section
open Eng Go.RowKit
theorem text_ok {o:Ob}(h:(Wr.text o).2=0):Vl.check 1 o=0∧o.k≠9∧(Wr.text o).1=Pl.join (Wr.parts o):=by
 unfold Wr.text at h ⊢;split at h
 ·rename_i hc;exact absurd h hc
 split at h
 ·cases h
 rename_i hc h9
 rw[if_neg hc,if_neg h9];exact⟨Classical.not_not.1 hc,h9,rfl⟩
theorem parts_pos (o:Ob):0 < (Wr.parts o).length:=by
 rw[Wr.parts_eq];split
 ·simp
 split
 ·simp
 split
 ·simp
 ·simp
end
section
open Eng Go.RowKit
namespace Ob
 mutual
def eqb:Ob→Ob→Bool
|.mk k n g s ks cs,b=>decide (k=b.k)&&decide (n=b.n)&&decide (g=b.g)&&decide (s=b.s)&&decide (ks=b.keys)&&eqbs cs b.kids
def eqbs:List Ob→List Ob→Bool
|[],[]=>true
|a::l,b::m=>eqb a b&&eqbs l m
|[],_::_=>false
|_::_,[]=>false
end
 mutual
theorem eqb_iff:∀a b:Ob,eqb a b=true↔a=b
|.mk k n g s ks cs,.mk k' n' g' s' ks' cs'=>by
  have ih:=eqbs_iff cs cs';rw[eqb];simp only[Bool.and_eq_true,decide_eq_true_eq];simp only[Ob.k,Ob.n,Ob.g,Ob.s,Ob.keys,Ob.kids,ih,Ob.mk.injEq,and_assoc]
theorem eqbs_iff:∀a b:List Ob,eqbs a b=true↔a=b
|[],[]=>by simp[eqbs]
|a::l,b::m=>by
  rw[eqbs,Bool.and_eq_true,eqb_iff a b,eqbs_iff l m];simp
|[],_::_=>by simp[eqbs]
|_::_,[]=>by simp[eqbs]
end
theorem eqb_eq (a b:Ob):eqb a b=(decide (a.k=b.k)&&decide (a.n=b.n)&&decide (a.g=b.g)&&decide (a.s=b.s)&&decide (a.keys=b.keys)&&eqbs a.kids b.kids):=by cases a;rw[eqb];rfl
theorem eqbs_drop {a b:List Ob}{i:Nat}(h1:i < a.length)(h2:i < b.length):eqbs (a.drop i) (b.drop i)=(eqb a[i] b[i]&&eqbs (a.drop (i+1)) (b.drop (i+1))):=by
 rw[List.drop_eq_getElem_cons h1,List.drop_eq_getElem_cons h2,eqbs]
theorem eqbs_len:∀{a b:List Ob},a.length≠b.length→eqbs a b=false:=by
 intro a b h;cases he:eqbs a b with
|false=>rfl
|true=>rw[eqbs_iff] at he;exact absurd (by rw[he]) h
end Ob
theorem rlist_ret {a b:Ob}{ka va kb vb:Value}{ca cb:List Value}(w:World)(ha:ObAt (InW w) w a ka va ca)(hb:ObAt (InW w) w b kb vb cb)(hl:a.kids.length≤1000000000)
  (ih:∀(i:Nat) (h1:i < a.kids.length) (h2:i < b.kids.length) (x y:Value) (W:World),OV (InW W) W x a.kids[i]→OV (InW W) W y b.kids[i]→Ret prog 48 #[x,y] W (fun v w'=>v=.bool (Ob.eqb a.kids[i] b.kids[i])∧Below W.heap.size W w')) :
  Ret prog 24 #[va,vb] w (fun v w'=>v=.bool (Ob.eqbs a.kids b.kids)∧Below w.heap.size w w'):=by
 refine ret_of fun K hK=>S_foliantref05_List_ok ?_;unfold S_foliantref05_List;rw[sl_len Tryz.underlying40 ha.kids.1,sl_len Tryz.underlying40 hb.kids.1];simp only[rs];by_cases hlen:(a.kids.length:Int)≠(b.kids.length:Int)
 ·simp only[decide_eq_true hlen,i_t];exact hK _ _ ⟨by rw[Ob.eqbs_len (by omega)],(Own.start w).done⟩
 have hle:a.kids.length=b.kids.length:=by omega
 simp only[decide_eq_false hlen,i_f,sl_len Tryz.underlying40 ha.kids.1];refine loop (fun vs w'=>∃(i:Nat),vs=[.int .i64 i]∧i≤a.kids.length∧Ob.eqbs a.kids b.kids=Ob.eqbs (a.kids.drop i) (b.kids.drop i)∧Own w w' []) (fun vs _=>a.kids.length - n0 vs) ⟨0,rfl,by omega,by simp,Own.start w⟩ ?_;rintro vs w2 ⟨i,rfl,hi,he,ho⟩ _;simp only[S_foliantref05_List_0,gd,rs];by_cases hlt:(i:Int) < (a.kids.length:Int)
 ·have h1:i < a.kids.length:=by omega
  have h2:i < b.kids.length:=by omega
  simp only[hlt,decide_true,rs];obtain⟨x,p,hx,hrx⟩:=kid_at ha h1;obtain⟨y,q,hy,hry⟩:=kid_at hb h2;refine quiet (q_at _ (fun W hW=>(hrx W (OwnS.keptIn (ho.grow hW))).1) ?_);refine q_at _ (fun W hW=>(hrx W (OwnS.keptIn (ho.grow hW))).2) ?_;refine q_at _ (fun W hW=>(hry W (OwnS.keptIn (ho.grow hW))).1) ?_;refine q_at _ (fun W hW=>(hry W (OwnS.keptIn (ho.grow hW))).2) ?_;refine q_call _ (fun W hW=>ret_grew (ih i h1 h2 x y W (hx.at_ (ho.grow hW)) (hy.at_ (ho.grow hW))) hW) ?_;refine q_do _ (fun W=>mv_run (by simp[Op.unary];rfl)) ?_;intro w3 hw;have ho:=ho.grow hw;rw[Ob.eqbs_drop h1 h2] at he;cases hq:Ob.eqb a.kids[i] b.kids[i] with
 |true=>
   simp only[Bool.not_true,i_f,rs];rw[wrap64_id (by omega) (by omega)];refine nextX ⟨i+1,rfl,by omega,?_,ho⟩ (by simp[n0,RowKit.intOf];omega);rw[he,hq];rfl
 |false=>
   simp only[Bool.not_false,i_t];exact hK _ _ ⟨by rw[he,hq];rfl,ho.done⟩
 ·simp only[hlt,decide_false,rs];refine hK _ _ ⟨?_,ho.done⟩;rw[he,List.drop_eq_nil_of_le (by omega),List.drop_eq_nil_of_le (by omega),Ob.eqbs]
theorem rsame5_ret (n:Nat):∀(a b:Ob) (x y:Value) (w:World),a.wt≤n→a.wt≤1000000000→OV (InW w) w x a→OV (InW w) w y b→Ret prog 48 #[x,y] w (fun v w'=>v=.bool (Ob.eqb a b)∧Below w.heap.size w w'):=by
 induction n with
|zero=>intro a b x y w h;have:=a.wt_pos;omega
|succ n ih=>
 intro a b x y w hn hw hx hy;obtain⟨ka,va,ca,rfl,ha⟩:=hx.open;obtain⟨kb,vb,cb,rfl,hb⟩:=hy.open;have hww:Ob.wts a.kids≤1000000000:=by cases a;rw[Ob.wt] at hw;simp only[Ob.kids];omega
 have hkt:Pl.tot a.keys≤1000000000:=by cases a;rw[Ob.wt] at hw;simp only[Ob.keys];omega
 have hlk:=Ob.len_wts a.kids;rw[Ob.eqb_eq];refine ret_of fun K hK=>S_foliantref05_Same_ok ?_;unfold S_foliantref05_Same;refine o_obb a ha.keys.one ha.kids.one (Own.start w) fun p w1 ho=>?_;refine o_obb b hb.keys.one hb.kids.one ho fun q w2 ho=>?_;rw[fa_o0,ob_k ho 1 rfl,fa_o0,ob_k ho 0 rfl];by_cases h1:a.k=b.k
 case neg=>simp only[rs,h1,decide_false,Bool.false_and] at hK ⊢;exact hK _ _ ⟨rfl,ho.done⟩
 simp only[rs,h1,decide_true,fa_o1,ob_n ho 1 rfl,ob_n ho 0 rfl,Bool.true_and] at hK ⊢;by_cases h2:a.n=b.n
 case neg=>simp only[rs,h2,decide_false,Bool.false_and] at hK ⊢;exact hK _ _ ⟨rfl,ho.done⟩
 simp only[rs,h2,decide_true,fa_o2,ob_g ho 1 rfl,ob_g ho 0 rfl,Bool.true_and] at hK ⊢;by_cases h3:a.g=b.g
 case neg=>simp only[rs,h3,decide_false,Bool.false_and] at hK ⊢;exact hK _ _ ⟨rfl,ho.done⟩
 simp only[rs,h3,decide_true,fa_o3,ob_s ho 1 rfl,ob_s ho 0 rfl,Bool.true_and] at hK ⊢;by_cases h4:a.s=b.s
 case neg=>simp only[rs,h4,decide_false,Bool.false_and] at hK ⊢;exact hK _ _ ⟨rfl,ho.done⟩
 simp only[rs,h4,decide_true,fa_o4,ob_keys ho 1 rfl,ob_keys ho 0 rfl,Bool.true_and] at hK ⊢;have hkl:=Pl.length_tot a.keys;refine c_told (rtexts_ret ka kb a.keys b.keys w2 (ho.oldSl ha.keys.1) (ho.oldSl hb.keys.1) (by omega)) rfl ho fun w3 ho=>?_;by_cases h5:a.keys=b.keys
 case neg=>simp only[rs,h5,decide_false,Bool.false_and] at hK ⊢;exact hK _ _ ⟨rfl,ho.done⟩
 simp only[rs,h5,decide_true,fa_o5,ob_kids ho 1 rfl,ob_kids ho 0 rfl,Bool.true_and] at hK ⊢;refine c_told (rlist_ret w3 (ha.in_ ho) (hb.in_ ho) (by omega) ?_) rfl ho fun w4 ho=>?_
 ·intro i hi hj x y W hx hy;have:=kid_wt hi;exact ih _ _ x y W (by omega) (by omega) hx hy
 exact hK _ _ ⟨rfl,ho.done⟩
end
end Go.Proofs.YtoofficgclghoaaGreatDoor





namespace Go.Proofs.YtoofficgclghoaaGreatDoor
section
open Go
namespace Vl
theorem checks_iff {d:Nat}:∀{os:List Ob},checks d os=0↔∀o∈os,check d o=0
|[]=>by simp[checks]
|o::os=>by
  rw[checks];split
  ·rename_i h
   constructor
   ·intro e;exact absurd e h
   ·intro e;exact absurd (e o List.mem_cons_self) h
  ·rename_i h
   have h:=Classical.not_not.1 h;rw[checks_iff];simp[h]
theorem gd_at (l:List (List UInt8)){i:Nat}(h:i < l.length):l.getD i []=l[i]:=by rw[List.getD_eq_getElem?_getD,List.getElem?_eq_getElem h];rfl
theorem rising_iff {o:Ob}:rising o=true↔o.keys.length=o.kids.length∧Rise o.keys∧(∀k∈o.keys,name k=true∧(o.k=9→k≠lenK))∧∀c∈o.kids,c.k≠0:=by
 unfold rising;simp only[Bool.and_eq_true,decide_eq_true_eq,List.all_eq_true,List.mem_range];constructor
 ·rintro⟨hl,h⟩;have hat:∀i (hi:i < o.keys.length),name o.keys[i]=true∧(i=0∨less (o.keys.getD (i - 1) []) o.keys[i]=true)∧(o.k=9→o.keys[i]≠lenK)∧(o.kids[i]'(by omega)).k≠0:=by
   intro i hi;have:=h i hi;unfold keyAt at this;rw[gd_at _ hi,List.getD_eq_getElem?_getD (l:=o.kids),List.getElem?_eq_getElem (by omega:i < o.kids.length)] at this;simp only[Bool.and_eq_true,Bool.or_eq_true,decide_eq_true_eq,Option.getD_some,Bool.not_eq_true',Bool.and_eq_false_iff,decide_eq_false_iff_not] at this;obtain⟨⟨⟨a,b⟩,c⟩,e⟩:=this;exact⟨a,b,fun h9 hk=>c.elim (fun x=>x h9) (fun x=>x hk),e⟩
  refine⟨hl,?_,?_,?_⟩
  ·refine List.pairwise_iff_getElem.2 fun i j hi hj hij=>?_;have step:∀i (hi:i+1 < o.keys.length),less o.keys[i] o.keys[i+1]=true:=by
    intro i hi;have:=(hat (i+1) hi).2.1;rcases this with h0|h0
    ·omega
    ·rwa [Nat.add_sub_cancel,gd_at _ (by omega:i < o.keys.length)] at h0
   have:∀d,∀j (hj:j < o.keys.length),j=i+1+d→less o.keys[i] o.keys[j]=true:=by
    intro d
    induction d with
   |zero=>intro j hj he;subst he;exact step i hj
   |succ d ih=>
     intro j hj he;subst he;exact less_trans (ih (i+1+d) (by omega) rfl) (step (i+1+d) hj)
   exact this (j - (i+1)) j hj (by omega)
  ·intro k hk;obtain⟨i,hi,rfl⟩:=List.getElem_of_mem hk;exact⟨(hat i hi).1,(hat i hi).2.2.1⟩
  ·intro c hc;obtain⟨i,hi,rfl⟩:=List.getElem_of_mem hc;exact (hat i (by omega)).2.2.2
 ·rintro⟨hl,hr,hk,hc⟩;refine⟨hl,fun i hi=>?_⟩;unfold keyAt;rw[gd_at _ hi,List.getD_eq_getElem?_getD (l:=o.kids),List.getElem?_eq_getElem (by omega:i < o.kids.length)];simp only[Bool.and_eq_true,Bool.or_eq_true,decide_eq_true_eq,Option.getD_some,Bool.not_eq_true',Bool.and_eq_false_iff,decide_eq_false_iff_not];refine⟨⟨⟨(hk _ (List.getElem_mem hi)).1,?_⟩,?_⟩,hc _ (List.getElem_mem _)⟩
  ·rcases Nat.eq_zero_or_pos i with h0|h0
   ·exact .inl h0
   ·refine .inr ?_;rw[gd_at _ (by omega:i - 1 < o.keys.length)];exact rise_get hr (by omega) hi
  ·by_cases h9:o.k=9
   ·exact .inr ((hk _ (List.getElem_mem hi)).2 h9)
   ·exact .inl h9
theorem check_iff {d:Nat}{o:Ob}:check d o=0↔(d≤24∧usesOk o=true∧(o.k=9→d≤1)∧fits o=true∧o.s.length≤long o.k∧o.kids.length≤8191∧form o=true)∧∀c∈o.kids,check (d+1) c=0:=by
 rw[check_eq];have hw:why d o=0↔(d≤24∧usesOk o=true∧(o.k=9→d≤1)∧fits o=true∧o.s.length≤long o.k∧o.kids.length≤8191∧form o=true):=by
  unfold why;split
  ·simp;omega
  rename_i h1
  split
  ·rename_i h2
   simp only[show (10:Int)≠0 by decide,false_iff,not_and];rintro - a b;rcases h2 with h2|h2
   ·rw[h2] at a;cases a
   ·have:=b h2.1;omega
  rename_i h2
  simp only[not_or,Bool.not_eq_false,not_and,Nat.not_lt] at h2;split
  ·rename_i h3;simp[h3]
  rename_i h3
  split
  ·rename_i h4;simp;intros;omega
  rename_i h4
  split
  ·rename_i h5;simp;intros;omega
  rename_i h5
  split
  ·rename_i h6;simp[h6]
  rename_i h6
  simp only[Bool.not_eq_false] at h3 h6;exact⟨fun _=>⟨by omega,h2.1,h2.2,h3,by omega,by omega,h6⟩,fun _=>rfl⟩
 split
 ·rename_i h
  constructor
  ·intro e;exact absurd e h
  ·intro e;exact absurd (hw.2 e.1) h
 ·rename_i h
  have h:=Classical.not_not.1 h;rw[checks_iff];exact⟨fun e=>⟨hw.1 h,e⟩,fun e=>e.2⟩
end Vl
namespace Dk
end Dk
end
section
open Go
namespace Ps
open Lx (next Tok Single)
open Wr (num parts partsL partsD)
def At (s:List UInt8)(a:Int)(p:List UInt8)(b:Int):Prop:=∃(x:Tok) (a':Int),Single p x∧next s a=({ x with a:=a',t:=b },0)
def Toks (s:List UInt8):Int→List (List UInt8)→Int→Prop
|a,[],b=>a=b
|a,p::ps,b=>∃c,At s a p c∧Toks s c ps b
theorem toks_app {s:List UInt8}:∀{ps qs:List (List UInt8)} {a b:Int},Toks s a (ps++qs) b↔∃c,Toks s a ps c∧Toks s c qs b
|[],qs,a,b=>by simp[Toks]
|p::ps,qs,a,b=>by
  simp only[List.cons_append,Toks,toks_app];constructor
  ·rintro⟨c,h1,d,h2,h3⟩;exact⟨d,⟨c,h1,h2⟩,h3⟩
  ·rintro⟨d,⟨c,h1,h2⟩,h3⟩;exact⟨c,h1,d,h2,h3⟩
theorem single_eq {p:List UInt8}{x y:Tok}(h:Single p x)(k:Single p y):x=y:=by
 have:=h.1.symm.trans k.1;exact (Prod.mk.inj this).1
theorem At.next {s:List UInt8}{a b:Int}{p:List UInt8}{x:Tok}(h:At s a p b)(hx:Single p x):∃a',Lx.next s a=({ x with a:=a',t:=b },0):=by
 obtain⟨y,a',h1,h2⟩:=h;rw[single_eq hx h1];exact⟨a',h2⟩
theorem tk_num {n:Int}(h1:-2147483647≤n)(h2:n≤2147483647):Single (num n) ⟨1,0,(num n).length,n,[]⟩:=by
 have e:num n=Lib.itoa n:=by unfold num Pl.pInt;rw[if_pos ⟨h1,h2⟩]
 rw[e];exact⟨Lx.itoa_next h1 h2,by simp,rfl,rfl⟩
theorem tk_name {l:List UInt8}(h:Vl.name l=true):Single (Pl.pName l).1 ⟨4,0,(Pl.pName l).1.length,0,l⟩:=by
 unfold Vl.name at h;simp only[Bool.and_eq_true,decide_eq_true_eq] at h;have e:(Pl.pName l).1=Pl.name l:=by unfold Pl.pName;rw[if_neg (by omega),if_neg (by simpa using h.2)]
 rw[e];exact⟨Lx.name_next h.1 h.2,by simp,rfl,rfl⟩
theorem tk_str {l:List UInt8}(h:l.length≤32767):Single (Pl.pStr l).1 ⟨3,0,(Pl.pStr l).1.length,0,l⟩:=by
 have e:(Pl.pStr l).1=Pl.str l:=by unfold Pl.pStr;rw[if_neg (by omega)]
 rw[e];exact⟨Lx.str_next h,by simp,rfl,rfl⟩
theorem tk_real {n:Int}(h:Fx.okB n=true):Single (Pl.pReal n).1 ⟨2,0,(Pl.pReal n).1.length,n,[]⟩:=by
 have e:(Pl.pReal n).1=Fx.text n:=by unfold Pl.pReal;rw[if_pos h]
 rw[e];exact⟨Lx.text_next h,by simp,rfl,rfl⟩
theorem tk_R:Single [82] ⟨5,0,1,0,[82]⟩:=by unfold Single;decide +kernel
theorem tk_a:Single [91] ⟨6,0,1,0,[91]⟩:=by unfold Single;decide +kernel
theorem tk_b:Single [93] ⟨6,0,1,0,[93]⟩:=by unfold Single;decide +kernel
theorem tk_c:Single [60,60] ⟨6,0,2,0,[60,60]⟩:=by unfold Single;decide +kernel
theorem tk_d:Single [62,62] ⟨6,0,2,0,[62,62]⟩:=by unfold Single;decide +kernel
theorem tk_nul:Single Wr.nul ⟨5,0,4,0,nul⟩:=by unfold Single;decide +kernel
theorem tk_tru:Single Wr.tru ⟨5,0,4,0,tru⟩:=by unfold Single;decide +kernel
theorem tk_fal:Single Wr.fal ⟨5,0,5,0,fal⟩:=by unfold Single;decide +kernel
def NoRef (s:List UInt8)(b:Int):Prop:=(next s b).2=0→(next s b).1.k=1→(next s (next s b).1.t).2=0→¬((next s (next s b).1.t).1.k=5∧(next s (next s b).1.t).1.s=[82])
theorem ref_none {s:List UInt8}{t:Tok}(h:NoRef s t.t):ref s t=none:=by
 unfold ref;split
 ·rfl
 split
 ·rfl
 rename_i h1
 simp only[not_or,Classical.not_not] at h1;rw[if_neg];rintro⟨h2,h3,h4⟩;exact h h1.1 h1.2.1 h2 ⟨h3,h4⟩
def NotR (p:List UInt8):Prop:=∀x,Single p x→¬(x.k=5∧x.s=[82])
def NotI (p:List UInt8):Prop:=∀x,Single p x→x.k≠1
def Bg (p:List UInt8):Prop:=∀x,Single p x→begins x=true
theorem bg_of {p:List UInt8}{x:Tok}(h:Single p x)(hx:begins x=true):Bg p:=fun y hy=>by rw[←single_eq h hy];exact hx
theorem begins_open {x:Tok}(h:begins x=true):x.k≠0∧¬(x.k=6∧x.s=[93])∧¬(x.k=6∧x.s=[62,62]):=by
 unfold begins at h;split at h
 ·rename_i h6
  simp only[Bool.or_eq_true,decide_eq_true_eq] at h;refine⟨by omega,?_,?_⟩
  ·rintro⟨_,e⟩;rw[e] at h;revert h;decide
  ·rintro⟨_,e⟩;rw[e] at h;revert h;decide
 ·rename_i h6
  simp only[Bool.and_eq_true,Bool.not_eq_true',decide_eq_false_iff_not] at h;exact⟨h.1,fun e=>h6 e.1,fun e=>h6 e.1⟩
theorem At.bg {s:List UInt8}{a b:Int}{p:List UInt8}(h:At s a p b)(hp:Bg p):(Lx.next s a).2=0∧begins (Lx.next s a).1=true∧(Lx.next s a).1.t=b:=by
 obtain⟨x,a',h1,h2⟩:=h;rw[h2];exact⟨rfl,hp x h1,rfl⟩
theorem notR_of {p:List UInt8}{x:Tok}(h:Single p x)(hx:¬(x.k=5∧x.s=[82])):NotR p:=fun y hy=>by rw[←single_eq h hy];exact hx
theorem notI_of {p:List UInt8}{x:Tok}(h:Single p x)(hx:x.k≠1):NotI p:=fun y hy=>by rw[←single_eq h hy];exact hx
theorem noRef_head {s:List UInt8}{a b:Int}{p:List UInt8}(h:At s a p b)(hp:NotI p):NoRef s a:=by
 obtain⟨x,a',h1,h2⟩:=h;intro _ hk;rw[h2] at hk;exact absurd hk (hp x h1)
theorem noRef_two {s:List UInt8}{a b c:Int}{p q:List UInt8}(h:At s a p b)(k:At s b q c)(hq:NotR q):NoRef s a:=by
 obtain⟨x,a',h1,h2⟩:=h;obtain⟨y,b',k1,k2⟩:=k;intro _ _ _;rw[h2];show ¬((next s b).1.k=5∧(next s b).1.s=[82]);rw[k2];exact hq y k1
theorem parts_head {o:Ob}{d:Nat}(h:Vl.check d o=0):∃p ps,parts o=p::ps∧NotR p∧Bg p∧(∀q qs,NotR q→∀{s:List UInt8} {a e:Int},Toks s a (parts o++q::qs) e→NoRef s a):=by
 obtain⟨_,_,hf,hl,hm⟩:=Wr.why_parts h;rw[Wr.parts_eq];by_cases k8:o.k=8
 ·have hn:(1≤o.n∧o.n≤8191)∧(0≤o.g∧o.g≤65535):=by
   simp[Vl.fits,k8] at hf;exact hf
  rw[if_pos k8];have t1:=tk_num (n:=o.n) (by omega) (by omega);have t2:=tk_num (n:=o.g) (by omega) (by omega);refine⟨_,_,rfl,notR_of t1 (by simp),bg_of t1 (by simp[begins]),?_⟩
  ·rintro q qs _ s a e ⟨b,h1,c,h2,_⟩;exact noRef_two h1 h2 (notR_of t2 (by simp))
 rw[if_neg k8];by_cases k6:o.k=6
 ·rw[if_pos k6];refine⟨_,_,rfl,notR_of tk_a (by decide),bg_of tk_a (by decide),?_⟩;rintro q qs _ s a e ⟨b,h1,_⟩;exact noRef_head h1 (notI_of tk_a (by decide))
 rw[if_neg k6];by_cases k7:o.k=7
 ·rw[if_pos k7];refine⟨_,_,rfl,notR_of tk_c (by decide),bg_of tk_c (by decide),?_⟩;rintro q qs _ s a e ⟨b,h1,_⟩;exact noRef_head h1 (notI_of tk_c (by decide))
 rw[if_neg k7];have key:∃x,Single (Wr.leaf o.k o.n o.s) x∧¬(x.k=5∧x.s=[82])∧begins x=true:=by
  unfold Wr.leaf;split
  ·split
   ·exact⟨_,tk_fal,by decide,by decide⟩
   ·exact⟨_,tk_tru,by decide,by decide⟩
  split
  ·rename_i h1 h2
   have:-2147483647≤o.n∧o.n≤2147483647:=by simpa[Vl.fits,h2] using hf
   exact⟨_,tk_num this.1 this.2,by simp,by simp[begins]⟩
  split
  ·rename_i h1 h2 h3
   have:-1073741824≤o.n∧o.n≤1073741824:=by simpa[Vl.fits,h3] using hf
   exact⟨_,tk_real (by simp[Fx.okB];omega),by simp,by simp[begins]⟩
  split
  ·rename_i h1 h2 h3 h4
   have:Vl.long o.k=32767:=by rw[h4];rfl
   exact⟨_,tk_str (by omega),by simp,by simp[begins]⟩
  split
  ·rename_i h1 h2 h3 h4 h5
   exact⟨_,tk_name (Wr.form_name hm h5),by simp,by simp[begins]⟩
  ·exact⟨_,tk_nul,by decide,by decide⟩
 obtain⟨x,hx,hr,h6⟩:=key;refine⟨_,_,rfl,notR_of hx hr,bg_of hx h6,?_⟩
 ·rintro q qs hq s a e ⟨b,h1,c,h2,_⟩;exact noRef_two h1 h2 hq
def Reads (s:List UInt8)(sub:Int→R)(o:Ob):Prop:=∀a b,Toks s a (parts o) b→(o.k=2→NoRef s b)→sub a=(o,b,0)
theorem arr_back {s:List UInt8}{ok:Bool}{sub:Int→R}{d:Nat}:∀(os acc:List Ob) (m:Nat) (a b:Int),(∀o∈os,Vl.check d o=0∧Reads s sub o)→(acc++os).length≤8191→os.length < m →
  Toks s a (partsL os++[[93]]) b→arr s ok sub m a acc=(.mk 6 0 0 [] [] (acc++os),b,0)
|[],acc,m+1,a,b,_,_,_,ht=>by
  rw[partsL,List.nil_append] at ht;obtain⟨c,h1,h2⟩:=ht;have h2:c=b:=h2;subst h2;obtain⟨a',hn⟩:=h1.next tk_b
  rw[arr,hn,if_pos ⟨rfl,rfl,rfl⟩,List.append_nil]
|o::os,acc,m+1,a,b,ho,hl,hm,ht=>by
  obtain⟨hc,hr⟩:=ho o List.mem_cons_self;obtain⟨p,ps,hp,hpR,hpb,_⟩:=parts_head hc;rw[partsL,List.append_assoc] at ht;obtain⟨c,h1,h2⟩:=toks_app.1 ht;have hsub:sub a=(o,c,0):=by
   refine hr a c h1 fun _=>?_;cases os with
  |nil=>
    rw[partsL,List.nil_append] at h2;obtain⟨e,h3,_⟩:=h2;exact noRef_head h3 (notI_of tk_b (by decide))
  |cons o2 os2=>
    obtain⟨hc2,_⟩:=ho o2 (by simp);obtain⟨_,_,_,_,_,hno⟩:=parts_head hc2;rw[partsL,List.append_assoc] at h2;cases os2 with
   |nil=>exact hno [93] [] (notR_of tk_b (by decide)) (by simpa[partsL] using h2)
   |cons o3 os3=>
     obtain⟨hc3,_⟩:=ho o3 (by simp);obtain⟨p3,ps3,hp3,hR3,_,_⟩:=parts_head hc3;rw[partsL,hp3,List.append_assoc,List.cons_append] at h2;exact hno p3 _ hR3 h2
  have hn:(next s a).2=0∧¬((next s a).1.k=6∧(next s a).1.s=[93]):=by
   rw[hp] at h1;obtain⟨e,h3,_⟩:=h1;have:=h3.bg hpb;exact⟨this.1,(begins_open this.2.1).2.1⟩
  have hacc:acc.length≠8191:=by simp at hl;omega
  rw[arr,if_neg (fun h=>hn.2 h.2),if_neg (fun h=>hacc h.2.1),if_neg (by simp[hn.1]),hsub,if_neg (by simp)];have:=arr_back (ok:=ok) os (acc++[o]) m c b (fun x hx=>ho x (List.mem_cons_of_mem _ hx)) (by simp at hl ⊢;omega) (by simpa using hm) h2;rw[this,List.append_assoc];rfl
|[],_,0,_,_,_,_,h,_=>by simp at h
|_::_,_,0,_,_,_,_,h,_=>by simp at h
theorem put_end {K:List (List UInt8)}{C:List Ob}{key:List UInt8}{v:Ob}(h:Vl.Rise (K++[key]))(hl:K.length=C.length):Vl.put (.mk 7 0 0 [] K C) key v=.mk 7 0 0 [] (K++[key]) (C++[v]):=by
 have hp:Vl.place K key=K.length:=by
  refine Vl.place_at (Nat.le_refl _) (fun m hm _=>?_) (fun h=>absurd h (by omega));have:=Vl.rise_get h (i:=m) (j:=K.length) hm (by simp);simpa[List.getElem_append_left hm] using this
 have hh:Vl.hit K key=false:=by unfold Vl.hit;rw[hp];simp
 unfold Vl.put;simp only[Ob.keys,Ob.kids,Ob.k,Ob.n,Ob.g,Ob.s,hp,hh,Bool.false_eq_true,if_false,Nat.add_zero,List.take_length,List.drop_length];rw[hl,List.take_length,List.drop_length]
theorem dict_back {s:List UInt8}{sub:Int→R}{d:Nat}:∀(keys:List (List UInt8)) (kids:List Ob) (K:List (List UInt8)) (C:List Ob) (m:Nat) (a b:Int),keys.length=kids.length→K.length=C.length→(∀k∈keys,Vl.name k=true)→Vl.Rise (K++keys) →
  (∀o∈kids,Vl.check d o=0∧o.k≠0∧Reads s sub o)→(K++keys).length≤8191→keys.length < m→Toks s a (partsD keys kids++[[62,62]]) b→dict s sub m a (.mk 7 0 0 [] K C) K=(.mk 7 0 0 [] (K++keys) (C++kids),b,0)
|[],[],K,C,m+1,a,b,_,_,_,_,_,_,_,ht=>by
  rw[partsD,List.nil_append] at ht;obtain⟨c,h1,h2⟩:=ht;have h2:c=b:=h2;subst h2;obtain⟨a',hn⟩:=h1.next tk_d
  rw[dict,hn,if_neg (by simp),if_pos ⟨rfl,rfl⟩,List.append_nil,List.append_nil]
|key::keys,o::kids,K,C,m+1,a,b,hlen,hKC,hnm,hr,ho,hl,hm,ht=>by
  obtain⟨hc,h0,hrd⟩:=ho o List.mem_cons_self;have htk:=tk_name (hnm key List.mem_cons_self);rw[partsD] at ht;simp only[List.cons_append,List.append_assoc] at ht;obtain⟨c,h1,h2⟩:=ht;obtain⟨e,h3,h4⟩:=toks_app.1 h2;obtain⟨a',hn⟩:=h1.next htk
  have hsub:sub c=(o,e,0):=by
   refine hrd c e h3 fun _=>?_;cases keys with
  |nil=>
    cases kids with
   |nil=>
     rw[partsD,List.nil_append] at h4;obtain⟨f,h5,_⟩:=h4;exact noRef_head h5 (notI_of tk_d (by decide))
   |cons _ _=>simp at hlen
  |cons k2 ks=>
    cases kids with
   |nil=>simp at hlen
   |cons o2 os=>
     rw[partsD,List.cons_append] at h4;obtain⟨f,h5,_⟩:=h4;exact noRef_head h5 (notI_of (tk_name (hnm k2 (by simp))) (by simp))
  have hk:key ∉ K:=by
   intro hk;have:=(List.pairwise_append.1 hr).2.2 key hk key List.mem_cons_self;rw[Vl.less_irrefl] at this;cases this
  have hK:K.length≠8191:=by simp at hl;omega
  have hr1:Vl.Rise (K++[key]):=by
   refine List.Pairwise.sublist ?_ hr;exact (List.Sublist.refl K).append (List.Sublist.cons_cons key (List.nil_sublist keys))
  rw[dict,hn,if_neg (by simp),if_neg (by simp),if_neg (by simp),if_neg (by simp),if_neg (by simpa using hk),if_neg hK];simp only;rw[hsub,if_neg (by simp)];simp only;unfold join;rw[if_pos h0,put_end hr1 hKC];have:=dict_back keys kids (K++[key]) (C++[o]) m e b (by simpa using hlen) (by simp[hKC]) (fun k hk=>hnm k (List.mem_cons_of_mem _ hk)) (by rw[List.append_assoc];exact hr) (fun x hx=>ho x (List.mem_cons_of_mem _ hx)) (by rw[List.append_assoc];exact hl) (by simpa using hm) h4;rw[this,List.append_assoc,List.append_assoc];rfl
|[],_::_,_,_,_,_,_,h,_,_,_,_,_,_,_=>by simp at h
|_::_,[],_,_,_,_,_,h,_,_,_,_,_,_,_=>by simp at h
|[],[],_,_,0,_,_,_,_,_,_,_,_,h,_=>by simp at h
|_::_,_::_,_,_,0,_,_,_,_,_,_,_,_,h,_=>by simp at h
theorem At.bd {s:List UInt8}{a b:Int}{p:List UInt8}(h:At s a p b):0≤a∧a < b∧b≤s.length:=by
 obtain⟨x,a',h1,h2⟩:=h;have:=Lx.next_bd (s:=s) (i:=a) (by rw[h2]) (by rw[h2];exact h1.2.1);have:=Lx.skip_ge s a.toNat;rw[h2] at *;simp only at *;omega
theorem toks_bd {s:List UInt8}:∀{ps:List (List UInt8)} {a b:Int},ps≠[]→Toks s a ps b→0≤a∧a+ps.length≤b∧b≤s.length
|[],_,_,h,_=>absurd rfl h
|[p],a,b,_,⟨c,h1,h2⟩=>by
  have h2:c=b:=h2;have:=h1.bd;simp only[List.length_singleton];omega
|p::q::ps,a,b,_,⟨c,h1,h2⟩=>by
  have h3:=toks_bd (List.cons_ne_nil q ps) h2;have:=h1.bd;simp only[List.length_cons] at *;omega
theorem parts_pos (o:Ob):1≤(parts o).length:=by
 rw[Wr.parts_eq];split
 ·simp
 split
 ·simp
 split
 ·simp
 ·simp
theorem partsL_pos:∀os:List Ob,os.length≤(partsL os).length
|[]=>by simp
|o::os=>by
  have:=partsL_pos os;have:=parts_pos o;rw[partsL,List.length_append,List.length_cons];omega
theorem partsD_pos:∀(ks:List (List UInt8)) (os:List Ob),ks.length=os.length→os.length≤(partsD ks os).length
|[],[],_=>by simp
|k::ks,o::os,h=>by
  have:=partsD_pos ks os (by simpa using h);rw[partsD,List.length_cons,List.length_cons,List.length_append];omega
|[],_::_,h=>by simp at h
|_::_,[],h=>by simp at h
theorem mk_eq {o:Ob}{k n g:Int}{s:List UInt8}{ks:List (List UInt8)}{cs:List Ob}(h1:o.k=k)(h2:o.n=n)(h3:o.g=g)(h4:o.s=s)(h5:o.keys=ks)(h6:o.kids=cs):Ob.mk k n g s ks cs=o:=by
 subst h1;subst h2;subst h3;subst h4;subst h5;subst h6;cases o;rfl
theorem nil_of {α:Type}{l:List α}(h:decide (l.length=0)=true):l=[]:=List.length_eq_zero_iff.1 (of_decide_eq_true h)
theorem uses_k {o:Ob}(h:Vl.usesOk o=true):∃n g s ks cs,Vl.used o.k=some (n,g,s,ks,cs)∧(n=false→o.n=0)∧(g=false→o.g=0)∧(s=false→o.s=[])∧(ks=false→o.keys=[])∧(cs=false→o.kids=[]):=by
 unfold Vl.usesOk at h;split at h
 ·cases h
 ·rename_i n g s ks cs he
  simp only[Bool.and_eq_true,Bool.or_eq_true] at h;obtain⟨⟨⟨⟨h1,h2⟩,h3⟩,h4⟩,h5⟩:=h;refine⟨n,g,s,ks,cs,he,?_,?_,?_,?_,?_⟩
  ·intro e;rcases h1 with h1|h1
   ·rw[e] at h1;cases h1
   ·exact of_decide_eq_true h1
  ·intro e;rcases h2 with h1|h1
   ·rw[e] at h1;cases h1
   ·exact of_decide_eq_true h1
  ·intro e;rcases h3 with h1|h1
   ·rw[e] at h1;cases h1
   ·exact of_decide_eq_true h1
  ·intro e;rcases h4 with h1|h1
   ·rw[e] at h1;cases h1
   ·exact of_decide_eq_true h1
  ·intro e;rcases h5 with h1|h1
   ·rw[e] at h1;cases h1
   ·exact nil_of h1
theorem uses_of {o:Ob}{n g s ks cs:Bool}(h:Vl.usesOk o=true)(hu:Vl.used o.k=some (n,g,s,ks,cs)):(n=false→o.n=0)∧(g=false→o.g=0)∧(s=false→o.s=[])∧(ks=false→o.keys=[])∧(cs=false→o.kids=[]):=by
 obtain⟨n',g',s',ks',cs',he,r⟩:=uses_k h;rw[hu] at he
 injection he with he
 simp only[Prod.mk.injEq] at he;obtain⟨rfl,rfl,rfl,rfl,rfl⟩:=he;exact r
theorem used_kind {k:Int}{x:Bool×Bool×Bool×Bool×Bool}(h:Vl.used k=some x):k=0∨k=1∨k=2∨k=3∨k=4∨k=5∨k=6∨k=7∨k=8∨k=9:=by
 unfold Vl.used at h
 (repeat' split at h)<;>first|omega|cases h
theorem obj_back (s:List UInt8)(n:Nat):∀(o:Ob) (d:Nat),o.wt≤n→1≤d→Vl.check d o=0→o.k≠9→Reads s (obj s (25 - d)) o:=by
 induction n with
|zero=>intro o d h;have:=o.wt_pos;omega
|succ n ih=>
  intro o d hw hd hc h9 a b ht hno;obtain⟨⟨a1,a2,a3,a4,a5,a6,a7⟩,hck⟩:=Vl.check_iff.1 hc;obtain⟨p,ps,hp,hpR,hpb,_⟩:=parts_head hc;have hcl:25 - d=(25 - (d+1))+1:=by omega
  have hkids:∀x∈o.kids,Vl.check (d+1) x=0∧Reads s (obj s (25 - (d+1))) x:=by
   intro x hx;have hcx:=hck x hx;obtain⟨i,hi,rfl⟩:=List.getElem_of_mem hx;have hkw:=kid_wt hi;refine⟨hcx,ih _ (d+1) (by omega) (by omega) hcx ?_⟩;intro e9;have:=(Vl.check_iff.1 hcx).1.2.2.1 e9;omega
  obtain⟨c,h1,h2⟩:∃c,At s a p c∧Toks s c ps b:=by rw[hp] at ht;exact ht
  obtain⟨x,a',hx,hn⟩:=h1;have hbg:=hpb x hx;have hob:=begins_open hbg;have hbd:=toks_bd (by rw[hp];simp) ht;rw[hcl,obj,hn,if_neg (by simp),if_neg hob.1,if_neg (by show ¬begins x=false;rw[hbg];simp)];simp only;rw[Wr.parts_eq] at hp;by_cases k8:o.k=8
  ·rw[if_pos k8] at hp
   injection hp with e1 e2
   subst e1;subst e2;have hf:(1≤o.n∧o.n≤8191)∧(0≤o.g∧o.g≤65535):=by simpa[Vl.fits,k8] using a4
   obtain⟨-,-,u3,u4,u5⟩:=uses_of a2 (show Vl.used o.k=_ by rw[k8];rfl);have eo:Ob.mk 8 o.n o.g [] [] []=o:=mk_eq k8 rfl rfl (u3 rfl) (u4 rfl) (u5 rfl);have e:=single_eq hx (tk_num (n:=o.n) (by omega) (by omega));subst e;obtain⟨c2,⟨y,a2',hy,hn2⟩,c3,⟨z,a3',hz,hn3⟩,he⟩:=h2;have he:c3=b:=he;subst he;have ey:=single_eq hy (tk_num (n:=o.g) (by omega) (by omega));have ez:=single_eq hz tk_R;subst ey;subst ez;simp only[ne_eq,Int.reduceEq,not_false_eq_true,if_true];unfold leaf;simp only[if_true];have hr:ref s ⟨1,a',c,o.n,[]⟩=some (o.g,c3):=by
    unfold ref;simp only;rw[if_neg (by omega),hn2];simp only;rw[if_neg (by omega),hn3];simp
   rw[hr];simp only;rw[eo]
  rw[if_neg k8] at hp;by_cases k6:o.k=6
  ·rw[if_pos k6] at hp
   injection hp with e1 e2
   subst e1;subst e2;obtain⟨u1,u2,u3,u4,-⟩:=uses_of a2 (show Vl.used o.k=_ by rw[k6];rfl);have eo:Ob.mk 6 0 0 [] [] o.kids=o:=mk_eq k6 (u1 rfl) (u2 rfl) (u3 rfl) (u4 rfl) rfl;have e:=single_eq hx tk_a;subst e;simp only[ne_eq,not_true,if_false,if_true];have hlk:=partsL_pos o.kids;have:=toks_bd (by simp) h2;simp only[List.length_append,List.length_singleton] at this;have hbk:=arr_back (ok:=decide (25 - (d+1)≠0)) o.kids [] (s.length+1) c b hkids (by simpa using a6) (by omega) h2;rw[List.nil_append,eo] at hbk;simpa using hbk
  rw[if_neg k6] at hp;by_cases k7:o.k=7
  ·rw[if_pos k7] at hp
   injection hp with e1 e2
   subst e1;subst e2;obtain⟨u1,u2,u3,-,-⟩:=uses_of a2 (show Vl.used o.k=_ by rw[k7];rfl);have eo:Ob.mk 7 0 0 [] o.keys o.kids=o:=mk_eq k7 (u1 rfl) (u2 rfl) (u3 rfl) rfl rfl;have e:=single_eq hx tk_c;subst e;have hr:Vl.rising o=true:=by simpa[Vl.form,k7] using a7
   obtain⟨r1,r2,r3,r4⟩:=Vl.rising_iff.1 hr;simp only[ne_eq,not_true,if_false];rw[if_neg (by decide)];have hlk:=partsD_pos o.keys o.kids r1;have:=toks_bd (by simp) h2;simp only[List.length_append,List.length_singleton] at this;have hbk:=dict_back (sub:=obj s (25 - (d+1))) o.keys o.kids [] [] (s.length+1) c b r1 rfl (fun k hk=>(r3 k hk).1) (by simpa using r2) (fun y hy=>⟨(hkids y hy).1,r4 y hy,(hkids y hy).2⟩) (by simp;omega) (by omega) h2;rw[List.nil_append,List.nil_append,eo] at hbk;exact hbk
  rw[if_neg k7] at hp
  injection hp with e1 e2
  subst e1;subst e2;have he:c=b:=h2;subst he;obtain⟨bn,bg,bs,bk,bc,hu,-⟩:=uses_k a2;rcases used_kind hu with k0|k0|k0|k0|k0|k0|k0|k0|k0|k0
  ·obtain⟨u1,u2,u3,u4,u5⟩:=uses_of a2 (show Vl.used o.k=_ by rw[k0];rfl);have eo:Ob.mk 0 0 0 [] [] []=o:=mk_eq k0 (u1 rfl) (u2 rfl) (u3 rfl) (u4 rfl) (u5 rfl);have e:=single_eq hx (by rw[k0];exact tk_nul);subst e;rw[if_pos (by decide),←eo];unfold leaf;simp only;rw[if_neg (by decide),if_neg (by decide),if_neg (by decide),if_neg (by decide),if_pos trivial];rfl
  ·obtain⟨-,u2,u3,u4,u5⟩:=uses_of a2 (show Vl.used o.k=_ by rw[k0];rfl);have hf:0≤o.n∧o.n≤1:=by simpa[Vl.fits,k0] using a4
   rw[k0] at hx;by_cases h0:o.n=0
   ·have eo:Ob.mk 1 0 0 [] [] []=o:=mk_eq k0 h0 (u2 rfl) (u3 rfl) (u4 rfl) (u5 rfl);rw[h0] at hx;have e:=single_eq hx tk_fal;subst e;rw[if_pos (by decide),←eo];unfold leaf;simp only;rw[if_neg (by decide),if_neg (by decide),if_neg (by decide),if_neg (by decide),if_neg (by decide),if_neg (by decide)]
   ·have h1:o.n=1:=by omega
    have eo:Ob.mk 1 1 0 [] [] []=o:=mk_eq k0 h1 (u2 rfl) (u3 rfl) (u4 rfl) (u5 rfl);rw[h1] at hx;have e:=single_eq hx tk_tru;subst e;rw[if_pos (by decide),←eo];unfold leaf;simp only;rw[if_neg (by decide),if_neg (by decide),if_neg (by decide),if_neg (by decide),if_neg (by decide),if_pos (by decide)]
  ·obtain⟨-,u2,u3,u4,u5⟩:=uses_of a2 (show Vl.used o.k=_ by rw[k0];rfl);have eo:Ob.mk 2 o.n 0 [] [] []=o:=mk_eq k0 rfl (u2 rfl) (u3 rfl) (u4 rfl) (u5 rfl);have hf:-2147483647≤o.n∧o.n≤2147483647:=by simpa[Vl.fits,k0] using a4
   have e:=single_eq hx (by rw[k0];exact tk_num hf.1 hf.2);subst e;rw[if_pos (by simp)];unfold leaf;simp only[if_true];rw[ref_none (hno k0)];simp only;rw[eo]
  ·obtain⟨-,u2,u3,u4,u5⟩:=uses_of a2 (show Vl.used o.k=_ by rw[k0];rfl);have eo:Ob.mk 3 o.n 0 [] [] []=o:=mk_eq k0 rfl (u2 rfl) (u3 rfl) (u4 rfl) (u5 rfl);have hf:-1073741824≤o.n∧o.n≤1073741824:=by simpa[Vl.fits,k0] using a4
   have e:=single_eq hx (by rw[k0];exact tk_real (n:=o.n) (by simp[Fx.okB];omega));subst e;rw[if_pos (by simp)];unfold leaf;simp[eo]
  ·obtain⟨u1,u2,-,u4,u5⟩:=uses_of a2 (show Vl.used o.k=_ by rw[k0];rfl);have eo:Ob.mk 4 0 0 o.s [] []=o:=mk_eq k0 (u1 rfl) (u2 rfl) rfl (u4 rfl) (u5 rfl);have h5:o.s.length≤32767:=by have:Vl.long o.k=32767:=(by rw[k0];rfl);omega
   have e:=single_eq hx (by rw[k0];exact tk_str h5);subst e;rw[if_pos (by simp)];unfold leaf;simp[eo]
  ·obtain⟨u1,u2,-,u4,u5⟩:=uses_of a2 (show Vl.used o.k=_ by rw[k0];rfl);have eo:Ob.mk 5 0 0 o.s [] []=o:=mk_eq k0 (u1 rfl) (u2 rfl) rfl (u4 rfl) (u5 rfl);have e:=single_eq hx (by rw[k0];exact tk_name (Wr.form_name a7 k0));subst e;rw[if_pos (by simp)];unfold leaf;simp[eo]
  all_goals first|exact absurd k0 k6|exact absurd k0 k7|exact absurd k0 k8|exact absurd k0 h9
end Ps
end
section
open Go
namespace Ps
open Lx (Tok Single stops joinR gap skip)
def Ends (p m:List UInt8):Prop:=(Oc.regular (Pl.lastC p)||decide (Pl.lastC p=47))=true→stops m
theorem ends_stop {p m:List UInt8}(h:stops m):Ends p m:=fun _=>h
theorem stops_cons {c:UInt8}{t:List UInt8}(h:Oc.regular c=false):stops (c::t):=fun d u e=>by injection e with e1 _;rw[←e1];exact h
theorem at_of {p:List UInt8}{x:Tok}(hx:Single p x)(pre m:List UInt8)(hm:Ends p m){a:Nat}(ha:a≤(pre++(p++m)).length)(hs:skip (pre++(p++m)) a=pre.length):At (pre++(p++m)) a p ((pre.length:Int)+p.length):=by
 have hT:=Lx.token_ext pre m hx hm;refine⟨x,pre.length,hx,?_⟩;unfold Lx.next
 rw[if_neg (by omega),Int.toNat_natCast,hs,hT]
theorem skip_here {pre:List UInt8}{c:UInt8}{t:List UInt8}(h37:c≠37)(hw:Oc.white c=false):skip (pre++c::t) pre.length=pre.length:=by
 unfold Lx.skip;rw[List.drop_left,Lx.skipF,if_neg h37,if_neg (by rw[hw];decide)];rfl
theorem skip_one {pre:List UInt8}{b c:UInt8}{t:List UInt8}(hb:Oc.white b=true)(hb37:b≠37)(h37:c≠37)(hw:Oc.white c=false):skip (pre++b::c::t) pre.length=pre.length+1:=by
 unfold Lx.skip;rw[List.drop_left,Lx.skipF,if_neg hb37,if_pos hb,Lx.skipF,if_neg h37,if_neg (by rw[hw];decide)]
theorem gap_two (last:UInt8)(p:List UInt8):gap last p=[]∨gap last p=[32]:=by unfold Lx.gap;split<;>simp
theorem single_ne {p:List UInt8}{x:Tok}(h:Single p x):p≠[]:=by
 obtain⟨c,t,e,_⟩:=Lx.single_head h;rw[e];simp
theorem joins_toks:∀(ps:List (List UInt8)) (p:List UInt8) (pre:List UInt8) (last:UInt8) (m:List UInt8) (a:Nat),(∀q∈p::ps,∃x,Single q x)→Ends ((p::ps).getLast (by simp)) m →
  a≤(pre++(joinR last (p::ps)++m)).length→skip (pre++(joinR last (p::ps)++m)) a=(pre++gap last p).length→Toks (pre++(joinR last (p::ps)++m)) a (p::ps) ((pre.length:Int)+(joinR last (p::ps)).length)
|[],p,pre,last,m,a,h,hm,ha,hs=>by
  obtain⟨x,hx⟩:=h p List.mem_cons_self;have e:pre++(joinR last [p]++m)=(pre++gap last p)++(p++m):=by simp[Lx.joinR]
  rw[e] at ha hs ⊢;have:=at_of hx (pre++gap last p) m hm ha hs;refine⟨_,this,?_⟩;show _=_;simp[Lx.joinR];omega
|q::ps,p,pre,last,m,a,h,hm,ha,hs=>by
  obtain⟨x,hx⟩:=h p List.mem_cons_self;obtain⟨y,hy⟩:=h q (by simp);have e:pre++(joinR last (p::q::ps)++m)=(pre++gap last p)++(p++(joinR (Pl.lastC p) (q::ps)++m)):=by rw[Lx.joinR];simp
  have e2:pre++(joinR last (p::q::ps)++m)=(pre++gap last p++p)++(joinR (Pl.lastC p) (q::ps)++m):=by rw[Lx.joinR];simp
  have hne:∀r∈q::ps,r≠[]:=fun r hr=>by obtain⟨z,hz⟩:=h r (List.mem_cons_of_mem _ hr);exact single_ne hz
  have hend:Ends p (joinR (Pl.lastC p) (q::ps)++m):=by
   intro hl c t he;have hst:=Lx.stops_join (Pl.lastC p) (q::ps) hne hl;cases hj:joinR (Pl.lastC p) (q::ps) with
  |nil=>
    exfalso;rw[Lx.joinR] at hj;have:=hne q List.mem_cons_self;simp at hj;exact this hj.2.1
  |cons d u=>
    rw[hj,List.cons_append] at he
    injection he with e1 _
    rw[←e1];exact hst d u hj
  have h1:At (pre++(joinR last (p::q::ps)++m)) a p (((pre++gap last p).length:Int)+p.length):=by
   rw[e] at ha hs ⊢;exact at_of hx (pre++gap last p) _ hend ha hs
  refine⟨_,h1,?_⟩;have hcast:(((pre++gap last p).length:Int)+p.length)=((pre++gap last p++p).length:Nat):=by simp;omega
  rw[hcast,e2];obtain⟨c,t,hq,h37,hw,_⟩:=Lx.single_head hy;have hsk:skip ((pre++gap last p++p)++(joinR (Pl.lastC p) (q::ps)++m)) (pre++gap last p++p).length=((pre++gap last p++p)++gap (Pl.lastC p) q).length:=by
   rw[Lx.joinR];rcases gap_two (Pl.lastC p) q with g|g
   ·rw[g,hq];simp only[List.nil_append,List.cons_append,List.append_nil];exact skip_here h37 hw
   ·rw[g,hq];simp only[List.nil_append,List.cons_append];rw[skip_one (by decide) (by decide) h37 hw];simp;omega
  have:=joins_toks ps q (pre++gap last p++p) (Pl.lastC p) m (pre++gap last p++p).length (fun r hr=>h r (List.mem_cons_of_mem _ hr)) (by simpa using hm) (by simp only[List.length_append];omega) hsk;have hl:((pre.length:Int)+(joinR last (p::q::ps)).length)=((pre++gap last p++p).length:Int)+(joinR (Pl.lastC p) (q::ps)).length:=by
   rw[Lx.joinR];simp;omega
  rw[hl];exact this
end Ps
end
section
open Go
namespace Lx
open Oc
structure Form (x:Tok):Prop where
 int:x.k=1→-2147483647≤x.n∧x.n≤2147483647
 real:x.k=2→Fx.okB x.n=true
 str:x.s.length≤32767
 name:x.k=4→Vl.name x.s=true
 kind:x.k=0∨x.k=1∨x.k=2∨x.k=3∨x.k=4∨x.k=5∨x.k=6
theorem none_form:Form none_:=⟨fun e=>by simp[none_] at e,fun e=>by simp[none_] at e,by simp[none_],fun e=>by simp[none_] at e,.inl rfl⟩
theorem told_form {k a t:Int}{x:List UInt8}{m:Int}(h:(told k a t x m).2=0)(hm:m≤32767)(hk:k=3∨k=4∨k=5)(hn:k=4→m≤127∧(0:UInt8) ∉ x):Form (told k a t x m).1:=by
 have e:=told_ok h;unfold told at h;split at h
 ·simp[refused] at h
 rename_i hx
 rw[e];refine⟨?_,?_,?_,?_,?_⟩
 ·intro h1;simp only at h1;omega
 ·intro h1;simp only at h1;omega
 ·show x.length≤_;omega
 ·intro h1;obtain⟨h2,h3⟩:=hn h1;show Vl.name x=true;unfold Vl.name;simp only[Bool.and_eq_true,decide_eq_true_eq];exact⟨by omega,h3⟩
 ·show k=0∨k=1∨k=2∨k=3∨k=4∨k=5∨k=6;omega
theorem regular_pos:∀c:UInt8,regular c=true→c≠0:=all8 (by decide +kernel)
theorem byte_pos (a b:UInt8):¬(digit a < 0)→¬(digit b < 0)→¬(16*digit a+digit b=0)→byte (digit a) (digit b)≠0:=by
 have hd:∀c:UInt8,digit c≤15:=all8 (by decide +kernel);intro h1 h2 h3 h4;have ha:=hd a;have hb:=hd b;unfold byte at h4;have h5:=congrArg UInt8.toNat h4;rw[UInt8.toNat_ofNat_of_lt' (by show _ < 256;omega)] at h5;have:(0:UInt8).toNat=0:=rfl;omega
theorem nameF_pos (n:Nat):∀(l x:List UInt8),l.length≤n→l.all regular=true→nameF l=some x→(0:UInt8) ∉ x:=by
 induction n with
|zero=>
  intro l x hl _ h;cases l with
 |nil=>simp[nameF] at h;subst h;simp
 |cons _ _=>simp at hl
|succ n ih=>
  intro l x hl hr h;cases l with
 |nil=>simp[nameF] at h;subst h;simp
 |cons c t=>
   simp only[List.all_cons,Bool.and_eq_true] at hr;by_cases hc:c=35
   ·subst hc
    match t,hl,hr,h with
   |[],_,_,h=>simp[nameF] at h
   |[a],_,_,h=>simp[nameF] at h
   |a::b::t,hl,hr,h=>
     simp only[nameF,if_true] at h;split at h
     ·cases h
     ·rename_i hh
      simp only[not_or] at hh;obtain⟨y,hy,rfl⟩:=map_some h;have h1:(0:UInt8) ∉ y:=ih t y (by simp at hl;omega) (by simp at hr ⊢;exact hr.2.2.2) hy;have h2:=byte_pos a b hh.1 hh.2.1 hh.2.2;simp only[List.mem_cons,not_or];exact⟨fun e=>h2 e.symm,h1⟩
   ·rw[nameF_ne hc] at h;obtain⟨y,hy,rfl⟩:=map_some h;have h1:(0:UInt8) ∉ y:=ih t y (by simpa using hl) hr.2 hy;simp only[List.mem_cons,not_or];exact⟨fun e=>regular_pos c hr.1 e.symm,h1⟩
theorem runF_reg:∀l:List UInt8,(l.take (runF l)).all regular=true:=fun l=>(runF_take l).1
theorem cut_run (s:List UInt8)(i:Nat):(cut s i (run s i)).all regular=true:=by
 unfold cut run;rw[Nat.add_sub_cancel_left];exact runF_reg _
theorem wordT_form {t:List UInt8}{a b:Int}(h:(wordT t a b).2=0):Form (wordT t a b).1:=by
 unfold wordT at h ⊢;split at h
 ·rename_i h1
  rw[if_pos h1];split at h
  ·rename_i h2;simp[refused] at h;exact absurd h h2
  rename_i h2
  rw[if_neg h2];have h2:=Classical.not_not.1 h2;refine⟨fun _=>?_,fun e=>?_,by simp,fun e=>?_,.inr (.inl rfl)⟩
  ·unfold whole at h2 ⊢;split at h2
   ·simp at h2
   ·rename_i h3
    rw[if_neg h3];simp only;split<;>omega
  ·simp at e
  ·simp at e
 rename_i h1
 rw[if_neg h1];split at h
 ·rename_i h2
  rw[if_pos h2];refine⟨fun e=>?_,fun _=>?_,by simp,fun e=>?_,.inr (.inr (.inl rfl))⟩
  ·simp at e
  ·have h3:=h2.2;show Fx.okB (Fx.read t).1=true;unfold Fx.read at h3 ⊢;split at h3
   ·rename_i h4
    rw[if_pos h4];split at h3
    ·simp at h3
    ·rename_i h5
     rw[if_neg h5];generalize (if Fx.minus t=true then -Fx.mag t else Fx.mag t)=q at h3 ⊢;unfold Fx.ans at h3 ⊢;cases hq:Fx.okB q with
    |true=>rw[if_pos rfl];exact hq
    |false=>rw[hq] at h3;simp at h3
   ·simp at h3
  ·simp at e
 rename_i h2
 rw[if_neg h2];split at h
 ·simp[refused] at h
 rename_i h3
 rw[if_neg h3];exact told_form h (by decide) (by decide) (fun h=>absurd h (by decide))
theorem mark_form (s:List UInt8)(a n:Nat)(hn:n≤2):Form (mark s a n).1:=by
 refine⟨fun e=>?_,fun e=>?_,?_,fun e=>?_,by simp[mark]⟩
 ·simp[mark] at e
 ·simp[mark] at e
 ·show (cut s a (a+n)).length≤_;unfold cut;rw[List.length_take];omega
 ·simp[mark] at e
theorem token_form {s:List UInt8}{a:Nat}(h:(token s a).2=0):Form (token s a).1:=by
 unfold token at h ⊢;split at h
 ·exact⟨fun e=>by simp at e,fun e=>by simp at e,by simp,fun e=>by simp at e,.inl rfl⟩
 rename_i c t hd
 split at h
 ·rename_i h1;rw[if_pos h1];exact mark_form s a 1 (by omega)
 rename_i h1;rw[if_neg h1]
 split at h
 ·rename_i h2;rw[if_pos h2]
  split at h
  ·rename_i h3;rw[if_pos h3];exact mark_form s a 2 (by omega)
  ·rename_i h3;rw[if_neg h3]
   unfold hex at h ⊢;split at h
   ·exact none_form
   ·exact told_form h (by decide) (by decide) (fun h=>absurd h (by decide))
 rename_i h2;rw[if_neg h2]
 split at h
 ·rename_i h3;rw[if_pos h3]
  split at h
  ·rename_i h4;rw[if_pos h4];exact mark_form s a 2 (by omega)
  ·simp[refused] at h
 rename_i h3;rw[if_neg h3]
 split at h
 ·rename_i h4;rw[if_pos h4]
  unfold name at h ⊢;split at h
  ·simp[refused] at h
  ·rename_i x hx
   refine told_form h (by decide) (by decide) (fun _=>⟨by decide,nameF_pos _ _ _ (Nat.le_refl _) (cut_run s (a+1)) hx⟩)
 rename_i h4;rw[if_neg h4]
 split at h
 ·rename_i h5;rw[if_pos h5]
  unfold text at h ⊢;split at h
  ·simp[refused] at h
  ·exact told_form h (by decide) (by decide) (fun h=>absurd h (by decide))
 rename_i h5;rw[if_neg h5]
 split at h
 ·simp[refused] at h
 rename_i h6;rw[if_neg h6]
 exact wordT_form h
theorem next_form {s:List UInt8}{i:Int}(h:(next s i).2=0):Form (next s i).1:=by
 unfold next at h ⊢
 split at h
 ·simp[refused] at h
 rename_i h1
 rw[if_neg h1];exact token_form h
end Lx
end
section
open Go
namespace Ps
open Lx (next Tok)
theorem obj_open {s:List UInt8}{n:Nat}{a:Int}(h:(obj s n a).2.2=0):(next s a).2=0∧(next s a).1.k≠0∧begins (next s a).1=true∧∃m,n=m+1 ∧
  obj s n a=if (next s a).1.k≠6 then leaf s (next s a).1 else if (next s a).1.s=[91] then arr s (decide (m≠0)) (obj s m) (s.length+1) (next s a).1.t [] else dict s (obj s m) (s.length+1) (next s a).1.t dict0 []:=by
 cases n with
|zero=>
  rw[obj] at h;split at h
  ·rename_i h1;exact absurd h h1
  split at h
  ·simp[bad] at h
  split at h
  ·simp[bad] at h
  ·simp[bad] at h
|succ n=>
  rw[obj] at h;split at h
  ·rename_i h1;exact absurd h h1
  rename_i h1
  split at h
  ·simp[bad] at h
  rename_i h2
  split at h
  ·simp[bad] at h
  rename_i h3
  refine⟨Classical.not_not.1 h1,h2,by simpa using h3,n,rfl,?_⟩;rw[obj,if_neg h1,if_neg h2,if_neg h3]
theorem join_wt {o v:Ob}{key:List UInt8}:(join o key v).wt≤o.wt+(key.length+1)+v.wt:=by
 unfold join;split
 ·exact Vl.put_wt o key v
 ·omega
end Ps
end
end Go.Proofs.YtoofficgclghoaaGreatDoor

namespace Go.Proofs.YtoofficgclghoaaGreatDoor
section
open Eng Go.RowKit
theorem ob1_ov2 {A:Nat→Prop}{w:World}{k n g:Int}{s:List UInt8}:OV A w (obV (ob1 k n g s) nilS nilS) (ob1 k n g s):=ObAt.ov (o:=ob1 k n g s) ⟨SlA.nil _ _ _ _,SlA.nil _ _ _ _,OVs.nil⟩
end
section
open Eng Go.RowKit
namespace Eng
theorem Ent.below {e:Ent}{w w':World}(h:e.is w)(hb:Below w.heap.size w w'):e.is w':=e.keep h fun k hk=>hb.block k (e.lt h k hk)
section
variable {S:Nat→Prop}{P:Program}{w w0:World}{L:List Ent}{PK:PKT}{K:VWP}
theorem c_rm {f:Nat}{args:Array Value}{e e':Ent}{M:Mem}{ok:Prop}{R:Value→Mem→Prop}{c:List PanicEntry}(ho:OwnS S w0 w L)(i:Nat)(hi:L[i]?=some (.two e (.mem M)))(h:Lent P f args e M w ok e' R c)
  (kr:∀v N w',ok→M.le N→R v N→OwnS S w0 w' (L.set i (.two e' (.mem N)))→K v w') (kp:∀e2 w',¬ok→OwnS S w0 w' (L.set i (.two e2 (.mem M)))→PK c w'):CallX P f args w PK K:=by
 by_cases hk:ok
 ·exact c_ret (h.ret hk) fun v w' ⟨N,hle,hr,ht⟩=>kr v N w' hk hle hr (ho.turn i hi ht)
 ·exact c_pan (h.pan hk) fun c' w' ⟨hc,e2,ht⟩=>by subst hc;exact kp e2 w' hk (ho.turn i hi ht)
end
end Eng
def rdC (s:List UInt8)(a:Int):List Value:=[.string ⟨s.toArray⟩,.int .i64 a]
abbrev rdE (b:Nat)(s:List UInt8)(a:Int):Ent:=.cells b (rdC s a) 144
abbrev rmE (b:Nat)(s:List UInt8)(a:Int)(M:Mem):Ent:=.two (rdE b s a) (.mem M)
abbrev rdP (b:Nat):Value:=.pointer (some ⟨b,0,none⟩)
def wrongE (e:Int):PanicEntry:={ v:=.iface 203 (.int .i64 e),recovered:=false }
theorem fr0:fOff prog 144 0=some 0:=by kernel_rfl
theorem fr1:fOff prog 144 1=some 1:=by kernel_rfl
theorem nfW:notIface prog 203=true:=by kernel_rfl
section
variable {w:World}{PK:PKT}{K:VWP}{S:Nat→Prop}{w0:World}{L:List Ent}
theorem fa_r0 {b:Nat}:DoX prog (mFA 144 (.pointer (some ⟨b,0,none⟩)) 0) w PK K=K (.pointer (some ⟨b,0,none⟩)) w:=f_addr fr0
theorem fa_r1 {b:Nat}:DoX prog (mFA 144 (.pointer (some ⟨b,0,none⟩)) 1) w PK K=K (.pointer (some ⟨b,1,none⟩)) w:=f_addr fr1
theorem rd_s {b:Nat}{s:List UInt8}{a:Int}(h:(rdE b s a).is w):DoX prog (mLoad 9 (.pointer (some ⟨b,0,none⟩))) w PK K=K (.string ⟨s.toArray⟩) w:=l_cell nStr5 (cells_cell (T:=144) (cs:=rdC s a) (i:=0) h rfl)
theorem rdr_s {b:Nat}{s:List UInt8}{a:Int}(h:(rdE b s a).is w):(mLoad 9 (.pointer (some ⟨b,0,none⟩))).run prog w=.ok (.value (.string ⟨s.toArray⟩)) w:=run_load_cell nStr5 (cells_cell (T:=144) (cs:=rdC s a) (i:=0) h rfl)
theorem rdr_a {b:Nat}{s:List UInt8}{a:Int}(h:(rdE b s a).is w):(mLoad 3 (.pointer (some ⟨b,1,none⟩))).run prog w=.ok (.value (.int .i64 a)) w:=run_load_cell nInt5 (cells_cell (T:=144) (cs:=rdC s a) (i:=1) h rfl)
theorem rd_put (i:Nat){b:Nat}{s:List UInt8}{a a':Int}(ho:OwnS S w0 w L)(hi:L[i]?=some (rdE b s a))(k:∀w',OwnS S w0 w' (L.set i (rdE b s a'))→K undef w'):DoX prog (mStore 3 (.pointer (some ⟨b,1,none⟩)) (.int .i64 a')) w PK K:=
 o_store i ho hi (by kernel_rfl) rfl (show 1 < 2 by omega) k
theorem throw {e:Int}{K2:Value→VWP}{PK2:PKT}(h:PK2 [wrongE e] w):DoX prog (mIface 203 (.int .i64 e)) w PK fun t w=>DoX prog (mPanic t) w PK2 (K2 t):=by
 rw[m_iface nfW,m_panic];exact h
end
theorem peek_ret (b:Nat)(s:List UInt8)(a at_:Int)(w:World)(hs:s.length≤1099511627776)(hr:(rdE b s a).is w) :
  Ret prog 208 #[rdP b,.int .i64 at_] w (fun v w'=>v=.tuple #[tokV (Lx.next s at_).1,.bool (decide ((Lx.next s at_).2=0))]∧Below w.heap.size w w'):=by
 refine ret_of fun K hK=>S_parse_reader_peek_ok ?_;unfold S_parse_reader_peek;refine o_tok (Own.start w) fun b4 w1 ho=>?_;rw[m_nil,fa_r0,rd_s (Ent.below (e:=rdE b s a) hr ho.done)];refine tk_new ho (next_ret s at_ w1 hs) fun b6 w2 ho=>?_;rw[tk_v ho 0 rfl];simp only[rs];refine tk_put 1 ho rfl fun w3 ho=>?_;exact ret_v2 (rv_cell (ho.agg 1 rfl aggTok)) rv_val (hK _ _ ⟨rfl,ho.done⟩)
def Has (s:List UInt8)(a:Int):Prop:=(Lx.next s a).2=0∧(Lx.next s a).1.k≠0
def lacks (s:List UInt8)(a:Int):Int:=if (Lx.next s a).2≠0 then (Lx.next s a).2 else 4
theorem pnext_ret (b:Nat)(s:List UInt8)(a:Int)(M:Mem)(w:World)(hs:s.length≤1099511627776)(hr:(rmE b s a M).is w) :
  Lent prog 151 #[rdP b] (rdE b s a) M w (Has s a) (rdE b s (Lx.next s a).1.t) (fun v N=>v=tokV (Lx.next s a).1) [wrongE (lacks s a)]:=by
 refine lent_of (fun K ho hret hpan=>S_parse_reader_next_ok ?_) hr;unfold S_parse_reader_next;refine o_tok ho fun b2 w1 ho=>?_;have two:∀{W:World} {b3:Nat},OwnS (rmE b s a M).blk w W [tokE b3 (Lx.next s a).1,tokE b2 Lx.none_,rdE b s a,.mem M]→S_parse_reader_next_0 (rdP b) (.pointer (some ⟨b2,0,none⟩)) (.pointer (some ⟨b3,0,none⟩)) (.int .i64 (Lx.next s a).2) W K:=by
  intro W b3 ho;have bad:∀{e:Int},¬Has s a→lacks s a=e→K (.panicked [wrongE e]) W:=by
   intro e hn he;subst he;exact hpan hn (rdE b s a) M W _ (ho.tail.tail) M.le_refl
  unfold Has lacks at *;generalize Lx.next s a=x at *
  unfold S_parse_reader_next_0;refine join fun J hJ=>?_;simp only[rs];by_cases e1:x.2=0
  case neg=>
   simp only[e1,ne_eq,not_false_eq_true,decide_true,i_t];exact throw (bad (fun h=>e1 h.1) (if_pos e1))
  simp only[e1,ne_eq,not_true,decide_false,i_f];refine hJ _ _ fun _=>?_;unfold S_parse_reader_next_1;refine join fun J hJ=>?_;rw[fa_t0,tk_k ho 0 rfl];simp only[rs];by_cases e2:x.1.k=0
  ·simp only[e2,decide_true,i_t];exact throw (bad (fun h=>h.2 e2) (if_neg (by rw[e1];simp)))
  simp only[e2,decide_false,i_f];refine hJ _ _ fun _=>?_;unfold S_parse_reader_next_2;rw[fa_t2,tk_t ho 0 rfl,m_nil,fa_r1];refine rd_put 2 ho rfl fun w2 ho=>?_;have ho:OwnS (rmE b s a M).blk w w2 [tokE b3 x.1,tokE b2 Lx.none_,rdE b s x.1.t,.mem M]:=ho;rw[tk_v ho 0 rfl];refine tk_put 1 ho rfl fun w3 ho=>?_;refine ret_v1 (rv_cell (ho.agg 1 rfl aggTok)) ?_;have ho:OwnS (rmE b s a M).blk w w3 ([tokE b3 x.1,tokE b2 x.1]++([rdE b s x.1.t,.mem M]++[])):=ho;exact hret ⟨e1,e2⟩ _ M w3 _ ho.front M.le_refl rfl
 have ho:=ho.drew;refine⟨fun W=>(rdE b s a).is W,ho.at_ 1 rfl,?_⟩;refine hd_pure _ (fun _=>run_nil) (hd_pure _ (fun _=>run_fa fr0) (hd_do _ (fun W h=>rdr_s h) ?_));refine hd_pure _ (fun _=>run_nil) (hd_pure _ (fun _=>run_fa fr1) (hd_do _ (fun W h=>rdr_a h) ?_));refine⟨?_,?_⟩
 ·refine c_below ho (R:=fun v=>v=tokR (Lx.next s a)) (next_ret s a _ hs) ?_;rintro _ w2 rfl ho;refine hd_pure _ (fun _=>run_ext0) (hd_pure _ (fun _=>run_ext1) ?_);refine o_tok ho fun b3 w3 ho=>⟨ho.at_ 2 rfl,?_⟩;refine tk_put 0 ho rfl fun w4 ho=>?_;exact two ho
 ·refine o_tok ho fun b3 w3 ho=>⟨ho.at_ 2 rfl,?_⟩;refine c_below ho (R:=fun v=>v=tokR (Lx.next s a)) (next_ret s a _ hs) ?_;rintro _ w2 rfl ho;refine hd_pure _ (fun _=>run_ext0) (hd_pure _ (fun _=>run_ext1) ?_);refine tk_put 0 ho rfl fun w4 ho=>?_;exact two ho
end
section
open Eng
def S_value_Real (t0:Value)(w:World)(K:Ending→World→Prop):Prop:=
 DoX prog (mAlloc 42) w (pk K) fun t2 w=>
 DoX prog (mBuild 42 #[(0,(.int .i64 3)),(1,t0)]) w (pk K) fun t4 w=>
 DoX prog (mStore 42 t2 t4) w (pk K) fun _ w=>
 RetX prog [.cell t2 42] w K
theorem S_value_Real_eq (t0:Value)(w:World)(K:Ending→World→Prop):wpX prog 5 [] [] none (bodyOf Tryz.f176) (topQ prog [.cell 2 42] K) (startX [t0]) [] w=S_value_Real t0 w K:=by kernel_rfl
theorem S_value_Real_ok {t0:Value}{w:World}{K:Ending→World→Prop}(h:S_value_Real t0 w K):Calls prog 176 #[t0] w K:=
 calls_of_wpX Tryz.func176 rfl rfl rfl rfl (Eq.mpr (S_value_Real_eq t0 w K) h)
def S_value_Ref (t0 t1:Value)(w:World)(K:Ending→World→Prop):Prop:=
 DoX prog (mAlloc 42) w (pk K) fun t4 w=>
 DoX prog (mBuild 42 #[(0,(.int .i64 8)),(1,t0),(2,t1)]) w (pk K) fun t7 w=>
 DoX prog (mStore 42 t4 t7) w (pk K) fun _ w=>
 RetX prog [.cell t4 42] w K
theorem S_value_Ref_eq (t0 t1:Value)(w:World)(K:Ending→World→Prop):wpX prog 8 [] [] none (bodyOf Tryz.f210) (topQ prog [.cell 4 42] K) (startX [t0,t1]) [] w=S_value_Ref t0 t1 w K:=by kernel_rfl
theorem S_value_Ref_ok {t0 t1:Value}{w:World}{K:Ending→World→Prop}(h:S_value_Ref t0 t1 w K):Calls prog 210 #[t0,t1] w K:=
 calls_of_wpX Tryz.func210 rfl rfl rfl rfl (Eq.mpr (S_value_Ref_eq t0 t1 w K) h)
def S_value_Bool_0 (t2 t3:Value)(w:World)(K:Ending→World→Prop):Prop:=
 DoX prog (mLoad 42 t3) w (pk K) fun t7 w=>
 DoX prog (mStore 42 t2 t7) w (pk K) fun _ w=>
 RetX prog [.cell t2 42] w K
def S_value_Bool (t0:Value)(w:World)(K:Ending→World→Prop):Prop:=
 DoX prog (mAlloc 42) w (pk K) fun t2 w=>
 DoX prog (mBuild 42 #[(0,(.int .i64 1))]) w (pk K) fun t4 w=>
 DoX prog (mAlloc 42) w (pk K) fun t3 w=>
 DoX prog (mStore 42 t3 t4) w (pk K) fun _ w=>
 JoinX (fun J1=>
 IfX t0 (DoX prog (mFA 42 t3 1) w (pk K) fun t6 w=>
 DoX prog (mStore 2 t6 (.int .i64 1)) w (pk K) fun _ w=>
 J1 [] w) (J1 [] w)) (fun vs1 w=>∀_:Sg,S_value_Bool_0 t2 t3 w K)
theorem S_value_Bool_eq (t0:Value)(w:World)(K:Ending→World→Prop):wpX prog 8 [(4,[])] [] none (bodyOf Tryz.f180) (topQ prog [.cell 2 42] K) (startX [t0]) [] w=S_value_Bool t0 w K:=by kernel_rfl
theorem S_value_Bool_ok {t0:Value}{w:World}{K:Ending→World→Prop}(h:S_value_Bool t0 w K):Calls prog 180 #[t0] w K:=
 calls_of_wpX Tryz.func180 rfl rfl rfl rfl (Eq.mpr (S_value_Bool_eq t0 w K) h)
end
section
open Eng Go.RowKit
theorem vreal_ret (n:Int)(w:World):Ret prog 176 #[.int .i64 n] w (obR (ob1 3 n 0 []) nilS nilS w):=by
 refine ret_of fun K hK=>S_value_Real_ok ?_;unfold S_value_Real;refine o_oba (Own.start w) fun b w1 ho=>?_;have hb:∀{PK:PKT} {K:VWP},DoX prog (mBuild 42 #[(0,(.int .i64 3)),(1,.int .i64 n)]) w1 PK K=K (obV (ob1 3 n 0 []) nilS nilS) w1:=do_eq (by kernel_rfl);rw[hb];refine ob_put 0 rfl rfl ho rfl fun w2 ho=>?_;exact ret_ob ho (hK _ _ ⟨rfl,ho.done⟩)
theorem vref_ret (n g:Int)(w:World):Ret prog 210 #[.int .i64 n,.int .i64 g] w (obR (ob1 8 n g []) nilS nilS w):=by
 refine ret_of fun K hK=>S_value_Ref_ok ?_;unfold S_value_Ref;refine o_oba (Own.start w) fun b w1 ho=>?_;have hb:∀{PK:PKT} {K:VWP},DoX prog (mBuild 42 #[(0,(.int .i64 8)),(1,.int .i64 n),(2,.int .i64 g)]) w1 PK K=K (obV (ob1 8 n g []) nilS nilS) w1:=do_eq (by kernel_rfl);rw[hb];refine ob_put 0 rfl rfl ho rfl fun w2 ho=>?_;exact ret_ob ho (hK _ _ ⟨rfl,ho.done⟩)
theorem vbool_ret (b:Bool)(w:World):Ret prog 180 #[.bool b] w (obR (ob1 1 (if b then 1 else 0) 0 []) nilS nilS w):=by
 refine ret_of fun K hK=>S_value_Bool_ok ?_;unfold S_value_Bool;refine o_oba (Own.start w) fun b2 w1 ho=>?_;have hb:∀{PK:PKT} {K:VWP},DoX prog (mBuild 42 #[(0,(.int .i64 1))]) w1 PK K=K (obV (ob1 1 0 0 []) nilS nilS) w1:=do_eq (by kernel_rfl);rw[hb];refine o_oba ho fun b3 w2 ho=>?_;refine ob_put (o':=ob1 1 0 0 []) (vk':=nilS) (vc':=nilS) 0 rfl rfl ho rfl fun w3 ho=>?_;refine join fun J hJ=>?_;have fin:∀{W:World} {n:Int},Own w W [obE b3 (ob1 1 n 0 []) nilS nilS,obE b2 ob0 nilS nilS]→n=(if b then 1 else 0)→J [] W:=by
  intro W n ho hn;refine hJ _ _ fun _=>?_;unfold S_value_Bool_0;rw[ob_v ho 0 rfl];refine ob_put 1 rfl rfl ho rfl fun w4 ho=>?_;exact ret_v1 (rv_cell (ho.agg 1 rfl aggOb)) (hK _ _ ⟨by rw[hn];rfl,ho.done⟩)
 cases b with
|true=>
  rw[i_t,fa_o1];exact o_store 0 ho rfl (by kernel_rfl) rfl (show 0+1 < 6 by omega) fun w4 ho=>fin (n:=1) ho rfl
|false=>
  rw[i_f];exact fin (n:=0) ho rfl
def pend (s:List UInt8)(t:Lx.Tok)(a:Int):Int:=match Ps.ref s t with|some p=>p.2|none=>a
def refO (s:List UInt8)(t:Lx.Tok):Ob:=match Ps.ref s t with|some p=>ob1 8 t.n p.1 []|none=>ob1 0 0 0 []
theorem pref_ret (b:Nat)(s:List UInt8)(t:Lx.Tok)(a:Int)(M:Mem)(w:World)(hs:s.length≤1099511627776)(hr:(rmE b s a M).is w) :
  Lent prog 174 #[rdP b,tokV t] (rdE b s a) M w True (rdE b s (pend s t a)) (fun v N=>v=.tuple #[obV (refO s t) nilS nilS,.bool (Ps.ref s t).isSome]) []:=by
 refine lent_of (fun K ho hret hpan=>S_parse_reader_ref_ok ?_) hr;clear hpan;have hret:=hret trivial;unfold S_parse_reader_ref;refine o_tkb t ho fun b3 w1 ho=>?_;refine o_oba ho fun b4 w2 ho=>?_;have no:∀{W:World} {L:List Ent} {o:Ob} (i:Nat),OwnS (rmE b s a M).blk w W (L++([rdE b s a,.mem M]++[]))→L[i]?=some (obE b4 o nilS nilS)→Ps.ref s t=none →
   DoX prog (mBuild 42 #[]) W (pk K) (fun t W=>DoX prog (mStore 42 (.pointer (some ⟨b4,0,none⟩)) t) W (pk K) fun _ W=>RetX prog [.cell (.pointer (some ⟨b4,0,none⟩)) 42,.val (.bool false)] W K):=by
  intro W L o i ho hi hn;rw[m_ob0];have hil:i < L.length:=(List.getElem?_eq_some_iff.1 hi).1;refine ob_put i rfl rfl ho (by rw[List.getElem?_append_left hil];exact hi) fun w' ho=>?_;rw[List.set_append_left _ _ hil] at ho;refine ret_v2 (rv_cell (ho.agg (cs:=obC Vl.ob0 nilS nilS) i (by rw[List.getElem?_append_left (by simp;omega)];simp[hil];rfl) aggOb)) rv_val ?_;refine hret _ M w' (L.set i (obE b4 Vl.ob0 nilS nilS)++[]) ?_ M.le_refl ?_
  ·rw[pend,hn];exact ho.front
  ·rw[refO,hn];rfl
 have hpend:=(rfl:pend s t a=pend s t a);unfold pend at hpend;have hrefO:refO s t=_:=rfl;by_cases h1:t.n < 1∨8191 < t.n
 ·have hr:Ps.ref s t=none:=by rw[Ps.ref,if_pos h1]
  by_cases h2:t.n < 1
  ·simp only[rs,fa_t3,tk_n ho 1 rfl,decide_eq_true h2,g_un];exact no (L:=[_,_]) 0 ho rfl hr
  ·have h3:8191 < t.n:=by omega
   simp only[rs,fa_t3,tk_n ho 1 rfl,decide_eq_false h2,decide_eq_true h3,g_un];exact no (L:=[_,_]) 0 ho rfl hr
 have h2:¬t.n < 1:=by omega
 have h3:¬8191 < t.n:=by omega
 simp only[rs,fa_t3,fa_t2,tk_n ho 1 rfl,tk_t ho 1 rfl,decide_eq_false h2,decide_eq_false h3,g_un];refine c_below ho (R:=fun v=>v=.tuple #[tokV (Lx.next s t.t).1,.bool (decide ((Lx.next s t.t).2=0))]) (peek_ret b s a t.t w2 hs (ho.at_ 2 rfl)) ?_;rintro _ w3 rfl ho;simp only[ex];refine o_tok ho fun b6 w4 ho=>?_;refine tk_put 0 ho rfl fun w5 ho=>?_;have ho:OwnS (rmE b s a M).blk w w5 [tokE b6 (Lx.next s t.t).1,obE b4 ob0 nilS nilS,tokE b3 t,rdE b s a,.mem M]:=ho;by_cases h4:(Lx.next s t.t).2≠0∨(Lx.next s t.t).1.k≠1∨(Lx.next s t.t).1.n < 0∨65535 < (Lx.next s t.t).1.n
 ·have hr:Ps.ref s t=none:=by rw[Ps.ref,if_neg h1,if_pos h4]
  have no':=no (W:=w5) (L:=[_,_,_]) 1 ho rfl hr;by_cases q1:(Lx.next s t.t).2=0
  ·by_cases q2:(Lx.next s t.t).1.k=1
   ·by_cases q3:(Lx.next s t.t).1.n < 0
    ·simp only[rs,fa_t0,fa_t3,tk_k ho 0 rfl,tk_n ho 0 rfl,q1,q2,q3,ne_eq,not_true,decide_true,decide_false,g_un,Bool.not_true];exact no'
    ·have q4:65535 < (Lx.next s t.t).1.n:=by
      rcases h4 with h|h|h|h
      ·exact absurd q1 h
      ·exact absurd q2 h
      ·exact absurd h q3
      ·exact h
     simp only[rs,fa_t0,fa_t3,tk_k ho 0 rfl,tk_n ho 0 rfl,q1,q2,q3,q4,ne_eq,not_true,decide_true,decide_false,g_un,Bool.not_true];exact no'
   ·simp only[rs,fa_t0,fa_t3,tk_k ho 0 rfl,tk_n ho 0 rfl,q1,q2,ne_eq,not_true,not_false_eq_true,decide_true,decide_false,g_un,Bool.not_true];exact no'
  ·simp only[rs,fa_t0,fa_t3,tk_k ho 0 rfl,tk_n ho 0 rfl,q1,ne_eq,not_true,not_false_eq_true,decide_true,decide_false,g_un,Bool.not_false];exact no'
 have q:(Lx.next s t.t).2=0∧(Lx.next s t.t).1.k=1∧¬(Lx.next s t.t).1.n < 0∧¬65535 < (Lx.next s t.t).1.n:=by
  refine⟨?_,?_,?_,?_⟩
  ·exact Classical.not_not.1 fun h=>h4 (.inl h)
  ·exact Classical.not_not.1 fun h=>h4 (.inr (.inl h))
  ·exact fun h=>h4 (.inr (.inr (.inl h)))
  ·exact fun h=>h4 (.inr (.inr (.inr h)))
 obtain⟨q1,q2,q3,q4⟩:=q;simp only[rs,fa_t0,fa_t2,fa_t3,tk_k ho 0 rfl,tk_n ho 0 rfl,tk_t ho 0 rfl,q1,q2,q3,q4,ne_eq,not_true,decide_true,decide_false,g_un,Bool.not_true];refine c_below ho (R:=fun v=>v=.tuple #[tokV (Lx.next s (Lx.next s t.t).1.t).1,.bool (decide ((Lx.next s (Lx.next s t.t).1.t).2=0))]) (peek_ret b s a (Lx.next s t.t).1.t w5 hs (ho.at_ 3 rfl)) ?_;rintro _ w6 rfl ho;simp only[ex];refine o_tok ho fun b8 w7 ho=>?_;refine tk_put 0 ho rfl fun w8 ho=>?_;have hr:Ps.ref s t=if (Lx.next s (Lx.next s t.t).1.t).2=0∧(Lx.next s (Lx.next s t.t).1.t).1.k=5∧(Lx.next s (Lx.next s t.t).1.t).1.s=[82] then some ((Lx.next s t.t).1.n,(Lx.next s (Lx.next s t.t).1.t).1.t) else none:=by
  rw[Ps.ref,if_neg h1,if_neg h4]
 generalize Lx.next s (Lx.next s t.t).1.t=x at *
 have ho:OwnS (rmE b s a M).blk w w8 [tokE b8 x.1,tokE b6 (Lx.next s t.t).1,obE b4 ob0 nilS nilS,tokE b3 t,rdE b s a,.mem M]:=ho;by_cases e1:x.2=0
 case neg=>
  simp only[e1,decide_false,rs,g_un,Bool.not_false];exact no (L:=[_,_,_,_]) 2 ho rfl (by rw[hr,if_neg (fun h=>e1 h.1)])
 simp only[e1,decide_true,rs,g_un,Bool.not_true,tk_v ho 0 rfl];refine c_below ho (R:=fun v=>v=.bool (decide (x.1.k=5)&&decide (x.1.s=[82]))) (pword_ret x.1 5 [82] w8) ?_;rintro _ w9 rfl ho;cases e2:(decide (x.1.k=5)&&decide (x.1.s=[82])) with
|false=>
  simp only[rs,Bool.not_false];have hnr:¬(x.2=0∧x.1.k=5∧x.1.s=[82]):=fun h=>by
   rw[decide_eq_true h.2.1,decide_eq_true h.2.2] at e2;exact absurd e2 (by decide)
  exact no (L:=[_,_,_,_]) 2 ho rfl (by rw[hr,if_neg hnr])
|true=>
  simp only[Bool.and_eq_true,decide_eq_true_eq] at e2;rw[if_pos ⟨e1,e2.1,e2.2⟩] at hr;simp only[rs,Bool.not_true,fa_t2,tk_t ho 0 rfl,m_nil,fa_r1];refine rd_put 4 ho rfl fun w10 ho=>?_;have ho:OwnS (rmE b s a M).blk w w10 [tokE b8 x.1,tokE b6 (Lx.next s t.t).1,obE b4 ob0 nilS nilS,tokE b3 t,rdE b s x.1.t,.mem M]:=ho;rw[tk_n ho 3 rfl,tk_n ho 1 rfl];refine c_below ho (R:=fun v=>v=obV (ob1 8 t.n (Lx.next s t.t).1.n []) nilS nilS) (vref_ret t.n (Lx.next s t.t).1.n w10) ?_;rintro _ w11 rfl ho;refine ob_put 2 rfl rfl ho rfl fun w12 ho=>?_;refine ret_v2 (rv_cell (ho.agg 2 rfl aggOb)) rv_val ?_;have ho:OwnS (rmE b s a M).blk w w12 ([tokE b8 x.1,tokE b6 (Lx.next s t.t).1,obE b4 (ob1 8 t.n (Lx.next s t.t).1.n []) nilS nilS,tokE b3 t]++([rdE b s x.1.t,.mem M]++[])):=ho;have hf:=ho.front;rw[←show pend s t a=x.1.t by rw[pend,hr]] at hf;exact hret _ M w12 _ hf M.le_refl (by rw[refO,hr];rfl)
def PObj (s:List UInt8)(n:Nat):Prop:=∀(b:Nat) (a:Int) (M:Mem) (w:World),Has s a→(rmE b s (Lx.next s a).1.t M).is w →
 Lent prog 150 #[rdP b,tokV (Lx.next s a).1,.int .i64 (24 - (n:Int))] (rdE b s (Lx.next s a).1.t) M w ((Ps.obj s n a).2.2=0) (rdE b s (Ps.obj s n a).2.1) (fun v N=>OV N.A N.w v (Ps.obj s n a).1) [wrongE (Ps.obj s n a).2.2]
def PArr (s:List UInt8)(n:Nat):Prop:=∀(b:Nat) (a:Int) (M:Mem) (w:World),0≤a→a≤s.length→(rmE b s a M).is w →
 Lent prog 181 #[rdP b,.int .i64 (24 - (n:Int))] (rdE b s a) M w ((Ps.arr s (decide (n≠0)) (Ps.obj s n) (s.length+1) a []).2.2=0) (rdE b s (Ps.arr s (decide (n≠0)) (Ps.obj s n) (s.length+1) a []).2.1) (fun v N=>OV N.A N.w v (Ps.arr s (decide (n≠0)) (Ps.obj s n) (s.length+1) a []).1) [wrongE (Ps.arr s (decide (n≠0)) (Ps.obj s n) (s.length+1) a []).2.2]
def PDict (s:List UInt8)(n:Nat):Prop:=∀(b:Nat) (a:Int) (M:Mem) (w:World),0≤a→a≤s.length→(rmE b s a M).is w →
 Lent prog 182 #[rdP b,.int .i64 (24 - (n:Int))] (rdE b s a) M w ((Ps.dict s (Ps.obj s n) (s.length+1) a Ps.dict0 []).2.2=0) (rdE b s (Ps.dict s (Ps.obj s n) (s.length+1) a Ps.dict0 []).2.1) (fun v N=>OV N.A N.w v (Ps.dict s (Ps.obj s n) (s.length+1) a Ps.dict0 []).1) [wrongE (Ps.dict s (Ps.obj s n) (s.length+1) a Ps.dict0 []).2.2]
end
end Go.Proofs.YtoofficgclghoaaGreatDoor
