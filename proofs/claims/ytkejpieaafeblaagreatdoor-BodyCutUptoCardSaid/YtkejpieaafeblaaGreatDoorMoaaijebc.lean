/- Texts that go together: Plain08D Plain08E Plain08F Plain08G Plain08H SBody EngAG SBodyR BoA BoB SRef08 BoR SStrm SDrop5 BoC BoD BoS BoT BoU BoE BoF BoV SLaw08 BoW BoX BoY BoG BpA BpB BpC BpD Plain08C BpE BoZ BpF. -/
import Derived.Test.YtkejpieaafeblaaGreatDoorRows
import Derived.Test.YtkejpieaafeblaaGreatDoorMbcfnphka
import Derived.Test.YtkejpieaafeblaaGreatDoorMenaffjmi
import Derived.Test.YtkejpieaafeblaaGreatDoorMikppdddp
import Derived.Test.YtkejpieaafeblaaGreatDoorMggklajfp
import Derived.Test.YtkejpieaafeblaaGreatDoorMjlmaibhk
set_option linter.defProp false
set_option linter.unusedSimpArgs false
set_option linter.unusedVariables false
set_option maxRecDepth 20000
open Go.Proofs.Tryz (prog)
namespace Go.Proofs.YtkejpieaafeblaaGreatDoor
section
open Go
namespace Lx
open Oc
theorem skipF_more:∀(b:Bool) (l m:List UInt8),skipF b l < l.length→skipF b (l++m)=skipF b l
|_,[],m,h=>by simp at h
|true,c::t,m,h=>by
  rw[List.cons_append,skipF,skipF,skipF_more (!eol c) t m (by rw[skipF,List.length_cons] at h;omega)]
|false,c::t,m,h=>by
  rw[List.cons_append,skipF,skipF];rw[skipF,List.length_cons] at h;by_cases h1:c=37
  ·rw[if_pos h1] at h;rw[if_pos h1,if_pos h1,skipF_more true t m (by omega)]
  ·rw[if_neg h1] at h;rw[if_neg h1,if_neg h1];by_cases h2:white c=true
   ·rw[if_pos h2] at h;rw[if_pos h2,if_pos h2,skipF_more false t m (by omega)]
   ·rw[if_neg h2,if_neg h2]
theorem skip_more {s:List UInt8}(r:List UInt8){k:Nat}(hk:k≤s.length)(h:skip s k < s.length):skip (s++r) k=skip s k:=by
 unfold skip at h ⊢;rw[List.drop_append_of_le_length hk,skipF_more false _ r (by rw[List.length_drop];omega)]
theorem runF_more:∀(l m:List UInt8),runF l < l.length→runF (l++m)=runF l
|[],m,h=>by simp at h
|c::t,m,h=>by
  rw[List.cons_append,runF,runF];rw[runF,List.length_cons] at h;by_cases h1:regular c=true
  ·rw[if_pos h1] at h;rw[if_pos h1,if_pos h1,runF_more t m (by omega)]
  ·rw[if_neg h1,if_neg h1]
theorem run_more {s:List UInt8}(r:List UInt8){k:Nat}(hk:k≤s.length)(h:run s k < s.length):run (s++r) k=run s k:=by
 unfold run at h ⊢;rw[List.drop_append_of_le_length hk,runF_more _ r (by rw[List.length_drop];omega)]
theorem cut_more {s:List UInt8}(r:List UInt8){i j:Nat}(hi:i≤s.length)(hj:j≤s.length):cut (s++r) i j=cut s i j:=by
 unfold cut;rw[List.drop_append_of_le_length hi,List.take_append_of_le_length (by rw[List.length_drop];omega)]
theorem token_more {s:List UInt8}(r:List UInt8){q:Nat}(hq:q < s.length)(h:(token s q).2=0)(hk:(token s q).1.k≠0)(ht:(token s q).1.t < s.length):token (s++r) q=token s q:=by
 have hd:=drop_cons hq;have hd2:(s++r).drop q=s[q]::(s.drop (q+1)++r):=by rw[List.drop_append_of_le_length (by omega),hd];rfl
 have hd3:(s++r).drop (q+1)=s.drop (q+1)++r:=List.drop_append_of_le_length (by omega);have hT:∀S:List UInt8,∀t:List UInt8,S.drop q=s[q]::t→token S q=if s[q]=91∨s[q]=93∨s[q]=123∨s[q]=125 then mark S q 1
  else if s[q]=60 then (if t.head?=some s[q] then mark S q 2 else hex S q)
  else if s[q]=62 then (if t.head?=some s[q] then mark S q 2 else refused 3)
  else if s[q]=47 then name S q
  else if s[q]=40 then text S q
  else if s[q]=41 then refused 3
  else word S q:=fun S t hS=>by rw[token,hS]
 rw[hT s _ hd] at h hk ht ⊢;rw[hT (s++r) _ hd2];have two:∀{c:UInt8},(s.drop (q+1)).head?=some c→q+2≤s.length∧(s.drop (q+1)++r).head?=some c:=by
  intro c hc;have hne:s.drop (q+1)≠[]:=by intro e;rw[e] at hc;cases hc
  have:=List.length_pos_iff.2 hne;rw[List.length_drop] at this;exact⟨by omega,by rw[head_app hne];exact hc⟩
 by_cases g0:s[q]=91∨s[q]=93∨s[q]=123∨s[q]=125
 ·rw[if_pos g0,if_pos g0];unfold mark;rw[cut_more r (by omega) (by omega)]
 rw[if_neg g0] at h hk ht ⊢;rw[if_neg g0];by_cases g1:s[q]=60
 ·rw[if_pos g1] at h hk ht ⊢;rw[if_pos g1];by_cases g:(s.drop (q+1)).head?=some s[q]
  ·obtain⟨h2,h3⟩:=two g;rw[if_pos g,if_pos h3];unfold mark;rw[cut_more r (by omega) h2]
  ·rw[if_neg g] at h hk ht ⊢;unfold hex at h hk ht;cases hx:hexF (-1) (s.drop (q+1)) with
  |inr e=>rw[hx] at hk;exact absurd rfl hk
  |inl y=>
    have hne:s.drop (q+1)≠[]:=by intro e;rw[e,hexF] at hx;cases hx
    rw[if_neg (by rw[head_app hne];exact g)];unfold hex;rw[hd3,hexF_ext _ _ _ r hx,hx]
 rw[if_neg g1] at h hk ht ⊢;rw[if_neg g1];by_cases g2:s[q]=62
 ·rw[if_pos g2] at h hk ht ⊢;rw[if_pos g2];by_cases g:(s.drop (q+1)).head?=some s[q]
  ·obtain⟨h2,h3⟩:=two g;rw[if_pos g,if_pos h3];unfold mark;rw[cut_more r (by omega) h2]
  ·rw[if_neg g] at hk;exact absurd rfl hk
 rw[if_neg g2] at h hk ht ⊢;rw[if_neg g2];by_cases g3:s[q]=47
 ·rw[if_pos g3] at h hk ht ⊢;rw[if_pos g3];unfold name at h hk ht ⊢;cases hx:nameF (cut s (q+1) (run s (q+1))) with
 |none=>rw[hx] at hk;exact absurd rfl hk
 |some y=>
   rw[hx] at h ht;simp only at h ht;rw[told_ok h] at ht;simp only at ht;have hr:run s (q+1) < s.length:=by omega
   rw[run_more r (by omega) hr,cut_more r (by omega) (by omega),hx]
 rw[if_neg g3] at h hk ht ⊢;rw[if_neg g3];by_cases g4:s[q]=40
 ·rw[if_pos g4] at h hk ht ⊢;rw[if_pos g4];unfold text at h hk ht ⊢;cases hx:textG 0 1 (s.drop (q+1)) with
 |none=>rw[hx] at hk;exact absurd rfl hk
 |some y=>rw[hd3,textG_ext _ _ _ _ r hx]
 rw[if_neg g4] at h hk ht ⊢;rw[if_neg g4];by_cases g5:s[q]=41
 ·rw[if_pos g5] at hk;exact absurd rfl hk
 rw[if_neg g5] at h hk ht ⊢;rw[if_neg g5];unfold word at h hk ht ⊢;rw[(wordT_ok h).2.2] at ht;have hr:run s q < s.length:=by omega
 rw[run_more r (by omega) hr,cut_more r (by omega) (by omega)]
theorem next_more {s:List UInt8}(r:List UInt8){a:Int}(h:(next s a).2=0)(hk:(next s a).1.k≠0)(ht:(next s a).1.t < s.length):next (s++r) a=next s a:=by
 obtain⟨b1,b2,b3,b4,b5⟩:=next_bd h hk;have hq:skip s a.toNat < s.length:=by omega
 have e1:next s a=token s (skip s a.toNat):=by unfold next;rw[if_neg (by omega)]
 have e2:next (s++r) a=token (s++r) (skip s a.toNat):=by
  unfold next
  rw[if_neg (by rw[List.length_append];omega),skip_more r (by omega) hq]
 rw[e1] at h hk ht ⊢;rw[e2,token_more r hq h hk ht]
theorem wordT_s {t:List UInt8}{a b:Int}(h:(wordT t a b).2=0)(hk:(wordT t a b).1.k=5):(wordT t a b).1.s=t:=by
 unfold wordT at h hk ⊢;by_cases g1:intForm t=true
 ·rw[if_pos g1] at hk;split at hk<;>exact absurd hk (by simp[refused,none_])
 rw[if_neg g1] at h hk ⊢;by_cases g2:t.contains 46∧(Fx.read t).2=0
 ·rw[if_pos g2] at hk;exact absurd hk (by simp)
 rw[if_neg g2] at h hk ⊢;by_cases g3:t.contains 46∧(Fx.read t).2=2
 ·rw[if_pos g3] at hk;exact absurd hk (by simp[refused,none_])
 rw[if_neg g3] at h ⊢;rw[told_ok h]
theorem word_at {s:List UInt8}{a:Int}(h:(next s a).2=0)(hk:(next s a).1.k=5):skip s a.toNat < s.length∧∃c t,s.drop (skip s a.toNat)=c::t∧regular c=true∧(next s a).1.s.head?=some c∧(next s a).1.t=(skip s a.toNat:Nat)+((next s a).1.s.length:Int):=by
 obtain⟨b1,b2,b3,b4,b5⟩:=next_bd h (by rw[hk];decide);have hq:skip s a.toNat < s.length:=by omega
 have e1:next s a=token s (skip s a.toNat):=by unfold next;rw[if_neg (by omega)]
 have hst:=skip_stop s a.toNat;rw[e1] at h hk b4 b5 ⊢;generalize skip s a.toNat=q at *;have hd:=drop_cons hq;have hT:token s q=if s[q]=91∨s[q]=93∨s[q]=123∨s[q]=125 then mark s q 1
  else if s[q]=60 then (if (s.drop (q+1)).head?=some s[q] then mark s q 2 else hex s q)
  else if s[q]=62 then (if (s.drop (q+1)).head?=some s[q] then mark s q 2 else refused 3)
  else if s[q]=47 then name s q
  else if s[q]=40 then text s q
  else if s[q]=41 then refused 3
  else word s q:=by rw[token,hd]
 obtain⟨h37,hw⟩:=stop_head (by rw[hd] at hst;exact hst);rw[hT] at h hk b4 b5 ⊢;have tk:∀{k a t:Int} {x:List UInt8} {m:Int},(told k a t x m).2=0→(told k a t x m).1.k=k:=fun h=>by rw[told_ok h]
 by_cases g0:s[q]=91∨s[q]=93∨s[q]=123∨s[q]=125
 ·rw[if_pos g0] at hk;exact absurd hk (by simp[mark])
 rw[if_neg g0] at h hk b4 b5 ⊢;by_cases g1:s[q]=60
 ·rw[if_pos g1] at h hk;by_cases g:(s.drop (q+1)).head?=some s[q]
  ·rw[if_pos g] at hk;exact absurd hk (by simp[mark])
  ·rw[if_neg g] at h hk;unfold hex at h hk;cases hx:hexF (-1) (s.drop (q+1)) with
  |inr e=>rw[hx] at hk;exact absurd hk (by simp[refused,none_])
  |inl y=>rw[hx] at h hk;rw[tk h] at hk;exact absurd hk (by decide)
 rw[if_neg g1] at h hk b4 b5 ⊢;by_cases g2:s[q]=62
 ·rw[if_pos g2] at hk;by_cases g:(s.drop (q+1)).head?=some s[q]
  ·rw[if_pos g] at hk;exact absurd hk (by simp[mark])
  ·rw[if_neg g] at hk;exact absurd hk (by simp[refused,none_])
 rw[if_neg g2] at h hk b4 b5 ⊢;by_cases g3:s[q]=47
 ·rw[if_pos g3] at h hk;unfold name at h hk;cases hx:nameF (cut s (q+1) (run s (q+1))) with
 |none=>rw[hx] at hk;exact absurd hk (by simp[refused,none_])
 |some y=>rw[hx] at h hk;rw[tk h] at hk;exact absurd hk (by decide)
 rw[if_neg g3] at h hk b4 b5 ⊢;by_cases g4:s[q]=40
 ·rw[if_pos g4] at h hk;unfold text at h hk;cases hx:textG 0 1 (s.drop (q+1)) with
 |none=>rw[hx] at hk;exact absurd hk (by simp[refused,none_])
 |some y=>rw[hx] at h hk;rw[tk h] at hk;exact absurd hk (by decide)
 rw[if_neg g4] at h hk b4 b5 ⊢;by_cases g5:s[q]=41
 ·rw[if_pos g5] at hk;exact absurd hk (by simp[refused,none_])
 rw[if_neg g5] at h hk b4 b5 ⊢;have hreg:=regular_of s[q] hw g0 g1 g2 g3 g4 g5 h37;unfold word at h hk b4 b5 ⊢;have ht:=(wordT_ok h).2.2;have hrun:q < run s q:=by unfold run;rw[hd,runF,if_pos hreg];omega
 have hle:=run_le s (show q≤s.length by omega);have hcut:=cut_cons hq hrun;have hlen:=cut_length (s:=s) (i:=q) hle;refine⟨hq,s[q],s.drop (q+1),hd,hreg,?_,?_⟩
 ·rw[wordT_s h hk,hcut];rfl
 ·rw[ht,wordT_s h hk,hlen];omega
theorem word_more {s:List UInt8}(r:List UInt8){a:Int}{c:UInt8}(h:(next s a).2=0)(hk:(next s a).1.k=5)(hc:(next s a).1.s.head?=some c)(h1:dig c=false)(h2:sgn c=false) :
  (next (s++r) a).1.k≠1∧((next (s++r) a).2=0→(next (s++r) a).1.k=5→(next (s++r) a).1.s.head?=some c∧(next (s++r) a).1.t=(skip s a.toNat:Nat)+((next (s++r) a).1.s.length:Int)):=by
 obtain⟨b1,b2,-,-,-⟩:=next_bd h (by rw[hk];decide);obtain⟨hq,c',t,hd,hreg,hs,ht⟩:=word_at h hk;have hcc:c'=c:=by rw[hs] at hc;exact Option.some.inj hc
 subst hcc;have hsk:=skip_more r (k:=a.toNat) (by omega) hq;have hd2:(s++r).drop (skip s a.toNat)=c'::(t++r):=by rw[List.drop_append_of_le_length (by omega),hd];rfl
 refine⟨?_,fun h3 h4=>?_⟩
 ·have e2:next (s++r) a=token (s++r) (skip s a.toNat):=by
   unfold next
   rw[if_neg (by rw[List.length_append];omega),hsk]
  rw[e2,token_word hd2 hreg];unfold word;have hq2:skip s a.toNat < (s++r).length:=by rw[List.length_append];omega
  have hrun:skip s a.toNat < run (s++r) (skip s a.toNat):=by unfold run;rw[hd2,runF,if_pos hreg];omega
  have hcut:=cut_cons hq2 hrun;have hg:(s++r)[skip s a.toNat]=c':=by
   have:=drop_cons hq2;rw[hd2] at this;exact (List.cons.inj this).1.symm
  rw[hg] at hcut;rw[hcut];generalize ((s++r).drop (skip s a.toNat+1)).take (run (s++r) (skip s a.toNat) - (skip s a.toNat+1))=u;have hI:intForm (c'::u)=false:=by
   unfold intForm;simp[unsign,h1,h2]
  unfold wordT;rw[hI];simp only[Bool.false_eq_true,if_false];split
  ·simp
  ·split
   ·simp[refused,none_]
   ·unfold told;split<;>simp[refused,none_]
 ·obtain⟨_,c2,t2,hd3,_,hs3,ht3⟩:=word_at h3 h4;rw[hsk] at hd3 ht3;rw[hd2] at hd3;exact⟨by rw[hs3,(List.cons.inj hd3).1],ht3⟩
end Lx
end
section
open Go
namespace Ps
open Lx (next Tok next_more)
def RefNot (s t:List UInt8)(p:Int):Prop:=∀x:Tok,x.t=p→ref s x=none→ref t x=none
def Look (s:List UInt8)(p e:Int):Prop:=(next s p).2=0∧(next s p).1.k≠0∧(next s p).1.t≤e∧((next s p).1.k=1→(next s (next s p).1.t).2=0∧(next s (next s p).1.t).1.k≠0∧(next s (next s p).1.t).1.t≤e)
theorem noRef_look {s:List UInt8}(r:List UInt8){p e:Int}(he:e < s.length)(h:Look s p e):RefNot s (s++r) p:=by
 intro x hx hn;subst hx;obtain⟨h1,h2,h3,h4⟩:=h;have e1:=next_more r h1 h2 (by omega);unfold ref at hn ⊢;by_cases g1:x.n < 1∨8191 < x.n
 ·rw[if_pos g1]
 rw[if_neg g1] at hn ⊢;rw[e1];by_cases g2:(next s x.t).2≠0∨(next s x.t).1.k≠1∨(next s x.t).1.n < 0∨65535 < (next s x.t).1.n
 ·rw[if_pos g2]
 rw[if_neg g2] at hn ⊢;obtain⟨h5,h6,h7⟩:=h4 (by omega);rw[next_more r h5 h6 (by omega)];exact hn
theorem ref_more {s:List UInt8}(r:List UInt8){x:Tok}{p:Int×Int}(h:ref s x=some p)(hp:p.2 < s.length):ref (s++r) x=some p:=by
 unfold ref at h ⊢;by_cases g1:x.n < 1∨8191 < x.n
 ·rw[if_pos g1] at h;cases h
 rw[if_neg g1] at h ⊢;by_cases g2:(next s x.t).2≠0∨(next s x.t).1.k≠1∨(next s x.t).1.n < 0∨65535 < (next s x.t).1.n
 ·rw[if_pos g2] at h;cases h
 rw[if_neg g2] at h;by_cases g3:(next s (next s x.t).1.t).2=0∧(next s (next s x.t).1.t).1.k=5∧(next s (next s x.t).1.t).1.s=[82]
 ·rw[if_pos g3] at h;have hp2:p.2=(next s (next s x.t).1.t).1.t:=by cases h;rfl
  have b2:=Lx.next_bd g3.1 (by rw[g3.2.1];decide);have hge:=Lx.skip_ge s (next s x.t).1.t.toNat;have e1:=next_more r (s:=s) (a:=x.t) (by omega) (by omega) (by omega);have e2:=next_more r (s:=s) (a:=(next s x.t).1.t) g3.1 (by rw[g3.2.1];decide) (by omega);rw[e1,if_neg g2,e2,if_pos g3];exact h
 ·rw[if_neg g3] at h;cases h
theorem leaf_ge (s:List UInt8)(x:Tok):x.t≤(leaf s x).2.1:=by
 unfold leaf;split
 ·cases hr:ref s x with
 |some p=>have:=ref_bd hr;show x.t≤p.2;omega
 |none=>exact Int.le_refl _
 all_goals (repeat' split)<;>exact Int.le_refl _
theorem leaf_more {s:List UInt8}(r:List UInt8){x:Tok}(hl:(leaf s x).2.1 < s.length)(hn:RefNot s (s++r) (leaf s x).2.1):leaf (s++r) x=leaf s x:=by
 unfold leaf at hl hn ⊢;by_cases g:x.k=1
 ·rw[if_pos g] at hl hn;rw[if_pos g,if_pos g];cases hr:ref s x with
 |some p=>
   rw[hr] at hl;rw[ref_more r hr hl]
 |none=>
   rw[hr] at hn;rw[hn x rfl hr]
 ·rw[if_neg g,if_neg g]
def Good2 (s:List UInt8)(sub:Int→R):Prop:=∀a,(sub a).2.2=0→(next s a).2=0∧(next s a).1.k≠0∧(next s a).1.t≤(sub a).2.1 ∧
 ((next s a).1.k=1→(sub a).2.1=(next s a).1.t∨((next s (next s a).1.t).2=0∧(next s (next s a).1.t).1.k≠0∧(next s (next s a).1.t).1.t≤(sub a).2.1))
theorem obj_good2 (s:List UInt8)(n:Nat):Good2 s (obj s n):=by
 intro a h;obtain⟨h1,h2,h3,m,rfl,e⟩:=obj_open h;refine⟨h1,h2,?_,fun hk=>?_⟩
 ·by_cases g:(next s a).1.k≠6
  ·rw[e,if_pos g];exact leaf_ge s _
  ·rw[if_neg g] at e;by_cases g2:(next s a).1.s=[91]
   ·rw[if_pos g2] at e;rw[e] at h ⊢;have:=(arr_bd (obj_good s m) _ _ _ h).1;omega
   ·rw[if_neg g2] at e;rw[e] at h ⊢;have:=(dict_bd (obj_good s m) _ _ _ _ h).1;omega
 ·rw[if_pos (by rw[hk];decide)] at e;rw[e];unfold leaf;rw[if_pos hk];cases hr:ref s (next s a).1 with
 |none=>exact .inl rfl
 |some p=>
   right;have hr2:=hr;unfold ref at hr2;split at hr2
   ·cases hr2
   split at hr2
   ·cases hr2
   rename_i g2
   split at hr2
   ·rename_i g3
    cases hr2;have b2:=Lx.next_bd g3.1 (by rw[g3.2.1];decide);have hge:=Lx.skip_ge s (next s (next s a).1.t).1.t.toNat;refine⟨by omega,by omega,?_⟩;show (next s (next s a).1.t).1.t≤(next s (next s (next s a).1.t).1.t).1.t;omega
   ·cases hr2
theorem arr_look {s:List UInt8}{ok:Bool}{sub:Int→R}(hg:Good s sub)(h2:Good2 s sub):∀(m:Nat) (p:Int) (acc:List Ob),(arr s ok sub m p acc).2.2=0→Look s p (arr s ok sub m p acc).2.1
|0,p,acc,h=>by simp[arr,bad] at h
|m+1,p,acc,h=>by
  rw[arr] at h ⊢;split at h
  ·rename_i g1
   rw[if_pos g1];exact⟨g1.1,by rw[g1.2.1];decide,Int.le_refl _,fun hk=>by rw[g1.2.1] at hk;exact absurd hk (by decide)⟩
  rename_i g1
  rw[if_neg g1];split at h
  ·simp[bad] at h
  rename_i g2
  rw[if_neg g2];split at h
  ·rename_i g3;exact absurd h g3
  rename_i g3
  rw[if_neg g3];split at h
  ·rename_i g4;exact absurd h g4
  rename_i g4
  rw[if_neg g4];have c:=arr_bd hg m _ _ h;obtain⟨k1,k2,k3,k4⟩:=h2 p (Classical.not_not.1 g4);refine⟨k1,k2,by omega,fun hk=>?_⟩;rcases k4 hk with e|⟨e1,e2,e3⟩
  ·have L:=arr_look hg h2 m _ _ h;rw[e] at L ⊢;exact⟨L.1,L.2.1,L.2.2.1⟩
  ·exact⟨e1,e2,by omega⟩
theorem dict_look {s:List UInt8}{sub:Int→R}(hg:Good s sub)(h2:Good2 s sub):∀(m:Nat) (p:Int) (o:Ob) (met:List (List UInt8)),(dict s sub m p o met).2.2=0→Look s p (dict s sub m p o met).2.1
|0,p,o,met,h=>by simp[dict,bad] at h
|m+1,p,o,met,h=>by
  rw[dict] at h ⊢;split at h
  ·rename_i g1;exact absurd h g1
  rename_i g1
  rw[if_neg g1];have h1:=Classical.not_not.1 g1;split at h
  ·rename_i g2
   rw[if_pos g2];exact⟨h1,by rw[g2.1];decide,Int.le_refl _,fun hk=>by rw[g2.1] at hk;exact absurd hk (by decide)⟩
  rename_i g2
  rw[if_neg g2];split at h
  ·simp[bad] at h
  rename_i g3
  rw[if_neg g3];split at h
  ·simp[bad] at h
  rename_i g4
  rw[if_neg g4];split at h
  ·simp[bad] at h
  rename_i g5
  rw[if_neg g5];split at h
  ·simp[bad] at h
  rename_i g6
  rw[if_neg g6];split at h
  ·rename_i g7;exact absurd h g7
  rename_i g7
  rw[if_neg g7];have c:=dict_bd hg m _ _ _ h;have b:=hg _ (Classical.not_not.1 g7);exact⟨h1,g3,by omega,fun hk=>absurd hk (by omega)⟩
def More (s t:List UInt8)(sub sub':Int→R):Prop:=∀a,(sub a).2.2=0→(sub a).2.1 < s.length→RefNot s t (sub a).2.1→sub' a=sub a
theorem arr_more {s:List UInt8}(r:List UInt8){ok:Bool}{sub sub':Int→R}(hg:Good s sub)(h2:Good2 s sub)(hm:More s (s++r) sub sub'):∀(m m':Nat) (a:Int) (acc:List Ob),m≤m'→(arr s ok sub m a acc).2.2=0→(arr s ok sub m a acc).2.1 < s.length→arr (s++r) ok sub' m' a acc=arr s ok sub m a acc
|0,_,a,acc,_,h,_=>by simp[arr,bad] at h
|m+1,0,a,acc,hle,_,_=>by omega
|m+1,m'+1,a,acc,hle,h,hl=>by
  have L:=arr_look hg h2 (m+1) a acc h;have e1:=next_more r L.1 L.2.1 (by have:=L.2.2.1;omega);rw[arr] at h hl;rw[arr,arr,e1];by_cases g1:(next s a).2=0∧(next s a).1.k=6∧(next s a).1.s=[93]
  ·rw[if_pos g1,if_pos g1]
  rw[if_neg g1] at h hl;rw[if_neg g1,if_neg g1];by_cases g2:(next s a).2=0∧acc.length=8191∧begins (next s a).1=true∧ok=true
  ·rw[if_pos g2,if_pos g2]
  rw[if_neg g2] at h hl;rw[if_neg g2,if_neg g2];by_cases g3:(next s a).2≠0
  ·exact absurd L.1 g3
  rw[if_neg g3] at h hl;rw[if_neg g3,if_neg g3];by_cases g4:(sub a).2.2≠0
  ·rw[if_pos g4] at h;exact absurd h g4
  rw[if_neg g4] at h hl;have c:=arr_bd hg m _ _ h;have e2:=hm a (Classical.not_not.1 g4) (by omega) (noRef_look r hl (arr_look hg h2 m _ _ h));rw[e2,if_neg g4,if_neg g4];exact arr_more r hg h2 hm m m' _ _ (by omega) h hl
theorem dict_more {s:List UInt8}(r:List UInt8){sub sub':Int→R}(hg:Good s sub)(h2:Good2 s sub)(hm:More s (s++r) sub sub'):∀(m m':Nat) (a:Int) (o:Ob) (met:List (List UInt8)),m≤m'→(dict s sub m a o met).2.2=0→(dict s sub m a o met).2.1 < s.length→dict (s++r) sub' m' a o met=dict s sub m a o met
|0,_,a,o,met,_,h,_=>by simp[dict,bad] at h
|m+1,0,a,o,met,hle,_,_=>by omega
|m+1,m'+1,a,o,met,hle,h,hl=>by
  have L:=dict_look hg h2 (m+1) a o met h;have e1:=next_more r L.1 L.2.1 (by have:=L.2.2.1;omega);rw[dict] at h hl;rw[dict,dict,e1];by_cases g1:(next s a).2≠0
  ·exact absurd L.1 g1
  rw[if_neg g1] at h hl;rw[if_neg g1,if_neg g1];by_cases g2:(next s a).1.k=6∧(next s a).1.s=[62,62]
  ·rw[if_pos g2,if_pos g2]
  rw[if_neg g2] at h hl;rw[if_neg g2,if_neg g2];by_cases g3:(next s a).1.k=0
  ·exact absurd g3 L.2.1
  rw[if_neg g3] at h hl;rw[if_neg g3,if_neg g3];by_cases g4:(next s a).1.k≠4
  ·rw[if_pos g4,if_pos g4]
  rw[if_neg g4] at h hl;rw[if_neg g4,if_neg g4];by_cases g5:(next s a).1.s∈met
  ·rw[if_pos g5,if_pos g5]
  rw[if_neg g5] at h hl;rw[if_neg g5,if_neg g5];by_cases g6:met.length=8191
  ·rw[if_pos g6,if_pos g6]
  rw[if_neg g6] at h hl;rw[if_neg g6,if_neg g6];by_cases g7:(sub (next s a).1.t).2.2≠0
  ·rw[if_pos g7] at h;exact absurd h g7
  rw[if_neg g7] at h hl;have c:=dict_bd hg m _ _ _ h;have e2:=hm _ (Classical.not_not.1 g7) (by omega) (noRef_look r hl (dict_look hg h2 m _ _ _ h));rw[e2,if_neg g7,if_neg g7];exact dict_more r hg h2 hm m m' _ _ _ (by omega) h hl
theorem obj_more (s r:List UInt8):∀n,More s (s++r) (obj s n) (obj (s++r) n):=by
 intro n
 induction n with
|zero=>
  intro a h _ _;obtain⟨_,_,_,m,hm,_⟩:=obj_open h;omega
|succ n ih=>
  intro a h hl hn;have g2:=obj_good2 s (n+1) a h;obtain⟨h1,h2,h3,m,hm,e⟩:=obj_open h;have hmn:m=n:=by omega
  subst hmn;have e1:=next_more r h1 h2 (by have:=g2.2.2.1;omega);have e2:obj (s++r) (m+1) a=if (next s a).1.k≠6 then leaf (s++r) (next s a).1 else if (next s a).1.s=[91] then arr (s++r) (decide (m≠0)) (obj (s++r) m) ((s++r).length+1) (next s a).1.t [] else dict (s++r) (obj (s++r) m) ((s++r).length+1) (next s a).1.t dict0 []:=by
   rw[obj,e1,if_neg (by simp[h1]),if_neg h2,if_neg (by simp[h3])]
  rw[e2];have hlen:s.length+1≤(s++r).length+1:=by rw[List.length_append];omega
  by_cases g:(next s a).1.k≠6
  ·rw[if_pos g] at e;rw[if_pos g];rw[e] at hl hn ⊢;exact leaf_more r hl hn
  rw[if_neg g] at e;rw[if_neg g];by_cases g3:(next s a).1.s=[91]
  ·rw[if_pos g3] at e;rw[if_pos g3];rw[e] at h hl ⊢;exact arr_more r (obj_good s m) (obj_good2 s m) ih _ _ _ _ hlen h hl
  ·rw[if_neg g3] at e;rw[if_neg g3];rw[e] at h hl ⊢;exact dict_more r (obj_good s m) (obj_good2 s m) ih _ _ _ _ _ hlen h hl
end Ps
end
section
open Go
namespace Bd
open Lx (next Tok next_more)
theorem num_ok {s:List UInt8}{a lo hi:Int}(h:(num s a lo hi).2.2=0):(next s a).2=0∧(next s a).1.k=1∧(num s a lo hi).2.1=(next s a).1.t:=by
 unfold num at h ⊢;split at h
 ·rename_i g;exact absurd h g
 rename_i g1
 rw[if_neg g1];split at h
 ·exact absurd h (by decide)
 rename_i g2
 rw[if_neg g2];split at h
 ·exact absurd h (by decide)
 rename_i g3
 rw[if_neg g3];split at h
 ·exact absurd h (by decide)
 rename_i g4
 rw[if_neg g4];exact⟨Classical.not_not.1 g1,Classical.not_not.1 g3,rfl⟩
theorem num_more {s:List UInt8}(r:List UInt8){a lo hi:Int}(h:(num s a lo hi).2.2=0)(hl:(num s a lo hi).2.1 < s.length):num (s++r) a lo hi=num s a lo hi:=by
 obtain⟨h1,h2,h3⟩:=num_ok h;have e:=next_more r h1 (by rw[h2];decide) (by omega);unfold num;rw[e]
theorem num_bd {s:List UInt8}{a lo hi:Int}(h:(num s a lo hi).2.2=0):a < (num s a lo hi).2.1∧(num s a lo hi).2.1≤s.length:=by
 obtain⟨h1,h2,h3⟩:=num_ok h;have b:=Lx.next_bd h1 (by rw[h2];decide);have:=Lx.skip_ge s a.toNat;omega
theorem word_ok {s:List UInt8}{a:Int}{w:List UInt8}(h:(word s a w).2=0):(next s a).2=0∧(next s a).1.k=5∧(next s a).1.s=w∧(word s a w).1=(next s a).1.t:=by
 unfold word at h ⊢;split at h
 ·rename_i g;exact absurd h g
 rename_i g1
 rw[if_neg g1];split at h
 ·exact absurd h (by decide)
 rename_i g2
 rw[if_neg g2];split at h
 ·exact absurd h (by decide)
 rename_i g3
 rw[if_neg g3];simp only[not_or,Classical.not_not] at g3;exact⟨Classical.not_not.1 g1,g3.1,g3.2,rfl⟩
theorem word_bd {s:List UInt8}{a:Int}{w:List UInt8}(h:(word s a w).2=0):0≤a∧a < (word s a w).1∧(word s a w).1≤s.length:=by
 obtain⟨h1,h2,h3,h4⟩:=word_ok h;have b:=Lx.next_bd h1 (by rw[h2];decide);have:=Lx.skip_ge s a.toNat;omega
theorem wordMore {s:List UInt8}(r:List UInt8){a:Int}{w:List UInt8}(h:(word s a w).2=0)(hl:(word s a w).1 < s.length):word (s++r) a w=word s a w:=by
 obtain⟨h1,h2,h3,h4⟩:=word_ok h;have e:=next_more r h1 (by rw[h2];decide) (by omega);unfold word;rw[e]
theorem word_last {s:List UInt8}(r:List UInt8){a:Int}(h:(word s a endobj).2=0)(h':(word (s++r) a endobj).2=0):(word (s++r) a endobj).1=(word s a endobj).1:=by
 obtain⟨h1,h2,h3,h4⟩:=word_ok h;obtain⟨k1,k2,k3,k4⟩:=word_ok h';obtain⟨_,c,t,_,_,_,ht⟩:=Lx.word_at h1 h2;have m:=(Lx.word_more r (c:=101) h1 h2 (by rw[h3];rfl) (by decide) (by decide)).2 k1 k2;rw[h4,k4,ht,m.2,h3,k3]
theorem word_refnot {s:List UInt8}(r:List UInt8){a:Int}{w:List UInt8}{c:UInt8}(h:(word s a w).2=0)(hc:w.head?=some c)(h1:Lx.dig c=false)(h2:Lx.sgn c=false):Ps.RefNot s (s++r) a:=by
 obtain⟨k1,k2,k3,k4⟩:=word_ok h;have m:=(Lx.word_more r (c:=c) k1 k2 (by rw[k3];exact hc) h1 h2).1;intro x hx _;subst hx;exact Ps.ref_none fun _ hk=>absurd hk m
theorem head_ok {s:List UInt8}{a:Int}(h:(head s a).e=0):0≤a∧a≤s.length∧(num s a 1 8191).2.2=0∧(num s (num s a 1 8191).2.1 0 65535).2.2=0∧(word s (num s (num s a 1 8191).2.1 0 65535).2.1 objW).2=0∧(head s a).t=(word s (num s (num s a 1 8191).2.1 0 65535).2.1 objW).1:=by
 unfold head at h ⊢;split at h
 ·exact absurd h (by decide)
 rename_i g0
 rw[if_neg g0];unfold headG at h ⊢;split at h
 ·rename_i g;exact absurd h g
 rename_i g1
 rw[if_neg g1];split at h
 ·rename_i g;exact absurd h g
 rename_i g2
 rw[if_neg g2];split at h
 ·rename_i g;exact absurd h g
 rename_i g3
 rw[if_neg g3];exact⟨by omega,by omega,Classical.not_not.1 g1,Classical.not_not.1 g2,Classical.not_not.1 g3,rfl⟩
theorem head_bd {s:List UInt8}{a:Int}(h:(head s a).e=0):a < (head s a).t∧(head s a).t≤s.length:=by
 obtain⟨h0,h1,h2,h3,h4,h5⟩:=head_ok h;have:=num_bd h2;have:=num_bd h3;have:=word_bd h4;omega
theorem head_more {s:List UInt8}(r:List UInt8){a:Int}(h:(head s a).e=0)(hl:(head s a).t < s.length):head (s++r) a=head s a:=by
 obtain⟨h0,h1,h2,h3,h4,h5⟩:=head_ok h;have b3:=num_bd h3;have b4:=word_bd h4;have e1:=num_more r h2 (by omega);have e2:=num_more r h3 (by omega);have e3:=wordMore r h4 (by omega);unfold head;rw[if_neg (by rw[List.length_append];omega),if_neg (by omega)];unfold headG;rw[e1,e2,e3]
theorem object_more {s:List UInt8}(r:List UInt8){a:Int}(h:(Ps.object s a).2.2=0)(hl:(Ps.object s a).2.1 < s.length)(hn:Ps.RefNot s (s++r) (Ps.object s a).2.1):Ps.object (s++r) a=Ps.object s a:=by
 unfold Ps.object at h hl hn ⊢;by_cases g:a < 0∨(s.length:Int) < a
 ·rw[if_pos g] at h;exact absurd h (by decide)
 rw[if_neg g] at h hl hn;rw[if_neg (by rw[List.length_append];omega),if_neg g];exact Ps.obj_more s r 24 a h hl hn
theorem object_bd {s:List UInt8}{a:Int}(h:(Ps.object s a).2.2=0):a < (Ps.object s a).2.1∧(Ps.object s a).2.1≤s.length:=by
 unfold Ps.object at h ⊢;by_cases g:a < 0∨(s.length:Int) < a
 ·rw[if_pos g] at h;exact absurd h (by decide)
 rw[if_neg g] at h ⊢;exact Ps.obj_bd h
theorem line_more {s:List UInt8}(r:List UInt8){a:Nat}(ha:a≤s.length)(h:(line s a).2=0):line (s++r) a=line s a∧a < (line s a).1∧(line s a).1≤s.length:=by
 unfold line at h ⊢;rw[List.drop_append_of_le_length ha];cases hd:s.drop a with
|nil=>rw[hd] at h;exact absurd h (by simp)
|cons c t=>
  have hlen:=congrArg List.length hd;rw[List.length_drop,List.length_cons] at hlen;rw[hd] at h;simp only[List.cons_append] at h ⊢;by_cases g1:c=13∧t=[]
  ·rw[if_pos g1] at h;exact absurd h (by decide)
  rw[if_neg g1] at h;by_cases g2:c=10
  ·rw[if_neg (by rw[g2];simp),if_pos g2,if_neg g1,if_pos g2];exact⟨rfl,by simp,by simp only;omega⟩
  rw[if_neg g2] at h;by_cases g3:c=13∧t.head?=some 10
  ·have hne:t≠[]:=by intro e;rw[e] at g3;cases g3.2
   have:=List.length_pos_iff.2 hne;rw[if_neg (by simp[hne]),if_neg g2,if_pos ⟨g3.1,by rw[Lx.head_app hne];exact g3.2⟩,if_neg g1,if_neg g2,if_pos g3];exact⟨rfl,by simp,by simp only;omega⟩
  ·rw[if_neg g3] at h;exact absurd h (by decide)
theorem size_nn {o:Ob}{len:Int}(h:(size o len).2=0):0≤(size o len).1:=by
 unfold size at h ⊢;split at h
 ·rename_i g;rw[if_pos g];exact g
 rename_i g
 rw[if_neg g];unfold own at h ⊢;cases hg:Vl.get o Vl.lenK with
|none=>rw[hg] at h;exact absurd h (by decide)
|some v=>
  rw[hg] at h;simp only at h ⊢;split at h
  ·exact absurd h (by decide)
  rename_i g1
  rw[if_neg g1];split at h
  ·exact absurd h (by decide)
  rename_i g2
  rw[if_neg g2];show 0≤v.n;omega
theorem stream_ok {s:List UInt8}{a:Nat}{len:Int}{o:Ob}(h:(stream s a len o).2.2=0):(line s a).2=0∧(size o len).2=0∧(size o len).1≤1048576∧(size o len).1≤(s.length:Int) - (line s a).1∧(word s ((line s a).1+(size o len).1) endstream).2=0∧(stream s a len o).2.1=(word s ((line s a).1+(size o len).1) endstream).1:=by
 unfold stream at h ⊢;split at h
 ·rename_i g;exact absurd h g
 rename_i g1
 rw[if_neg g1];split at h
 ·rename_i g;exact absurd h g
 rename_i g2
 rw[if_neg g2];split at h
 ·exact absurd h (by decide)
 rename_i g3
 rw[if_neg g3];split at h
 ·exact absurd h (by decide)
 rename_i g4
 rw[if_neg g4];split at h
 ·rename_i g;exact absurd h g
 rename_i g5
 rw[if_neg g5];exact⟨Classical.not_not.1 g1,Classical.not_not.1 g2,by omega,by omega,Classical.not_not.1 g5,rfl⟩
theorem stream_more {s:List UInt8}(r:List UInt8){a:Nat}{len:Int}{o:Ob}(ha:a≤s.length)(h:(stream s a len o).2.2=0)(hl:(stream s a len o).2.1 < s.length):(stream (s++r) a len o).2.2=0∧(stream (s++r) a len o).2.1=(stream s a len o).2.1∧a < (stream s a len o).2.1:=by
 obtain⟨h1,h2,h3,h4,h5,h6⟩:=stream_ok h;obtain⟨e1,b1,b2⟩:=line_more r ha h1;have b5:=word_bd h5;have hz:=size_nn h2;have e5:=wordMore r h5 (by omega);have hA:stream (s++r) a len o=(strm o (((s++r).drop (line s a).1).take (size o len).1.toNat),(word s ((line s a).1+(size o len).1) endstream).1,0):=by
  unfold stream;rw[e1,if_neg (by simp[h1]),if_neg (by simp[h2]),if_neg (by omega),if_neg (by rw[List.length_append];omega),e5,if_neg (by simp[h5])]
 rw[hA,h6];exact⟨rfl,rfl,by omega⟩
theorem tail_ok {s:List UInt8}{h:Hd}{o:Ob}{a:Int}(hz:(tail s h o a).2.2=0):(word s a endobj).2=0∧(tail s h o a).2.1=(word s a endobj).1:=by
 unfold tail at hz ⊢;split at hz
 ·rename_i g;exact absurd hz g
 ·rename_i g
  rw[if_neg g];exact⟨Classical.not_not.1 g,rfl⟩
theorem body_ok {s:List UInt8}{len:Int}{h:Hd}{o:Ob}{a:Int}(hz:(body s len h o a).2.2=0) :
  (((word s a streamW).2=0∧o.k=7)∧(stream s (word s a streamW).1.toNat len o).2.2=0∧(word s (stream s (word s a streamW).1.toNat len o).2.1 endobj).2=0∧(body s len h o a).2.1=(word s (stream s (word s a streamW).1.toNat len o).2.1 endobj).1) ∨
  (¬((word s a streamW).2=0∧o.k=7)∧(word s a endobj).2=0∧(body s len h o a).2.1=(word s a endobj).1):=by
 unfold body at hz ⊢;by_cases g:(word s a streamW).2=0∧o.k=7
 ·left;rw[if_pos g] at hz ⊢;split at hz
  ·rename_i g2;exact absurd hz g2
  ·rename_i g2
   rw[if_neg g2];have:=tail_ok hz;exact⟨g,Classical.not_not.1 g2,this.1,this.2⟩
 ·right;rw[if_neg g] at hz ⊢;have:=tail_ok hz;exact⟨g,this.1,this.2⟩
theorem read_ok {s:List UInt8}{a len:Int}(h:(read s a len).2.2=0):(head s a).e=0∧(Ps.object s (head s a).t).2.2=0∧read s a len=body s len (head s a) (Ps.object s (head s a).t).1 (Ps.object s (head s a).t).2.1:=by
 unfold read at h ⊢;split at h
 ·exact absurd h (by decide)
 rename_i g1
 rw[if_neg g1];split at h
 ·rename_i g;exact absurd h g
 rename_i g2
 rw[if_neg g2];split at h
 ·rename_i g;exact absurd h g
 rename_i g3
 rw[if_neg g3];split at h
 ·exact absurd h (by decide)
 rename_i g4
 rw[if_neg g4];exact⟨Classical.not_not.1 g2,Classical.not_not.1 g3,rfl⟩
theorem body_bd {s:List UInt8}{len:Int}{h:Hd}{o:Ob}{a:Int}(hz:(body s len h o a).2.2=0):(body s len h o a).2.1≤s.length:=by
 rcases body_ok hz with ⟨_,_,h1,h2⟩|⟨_,h1,h2⟩
 ·rw[h2];exact (word_bd h1).2.2
 ·rw[h2];exact (word_bd h1).2.2
theorem read_bd {s:List UInt8}{a len:Int}(h:(read s a len).2.2=0):(read s a len).2.1≤s.length:=by
 obtain⟨h1,h2,e⟩:=read_ok h;rw[e] at h ⊢;exact body_bd h
theorem read_ext {s:List UInt8}(r:List UInt8){a len:Int}(h:(read s a len).2.2=0)(h':(read (s++r) a len).2.2=0):(read (s++r) a len).2.1=(read s a len).2.1:=by
 obtain⟨h1,h2,e⟩:=read_ok h;obtain⟨k1,k2,k⟩:=read_ok h';rw[e] at h ⊢;rw[k] at h' ⊢;have bo:=object_bd h2;have ho:(word s (Ps.object s (head s a).t).2.1 streamW).2=0∨(word s (Ps.object s (head s a).t).2.1 endobj).2=0:=by
  rcases body_ok h with ⟨g,_⟩|⟨_,g,_⟩
  ·exact .inl g.1
  ·exact .inr g
 have hlt:(Ps.object s (head s a).t).2.1 < s.length:=by
  rcases ho with g|g
  ·have:=word_bd g;omega
  ·have:=word_bd g;omega
 have hR:Ps.RefNot s (s++r) (Ps.object s (head s a).t).2.1:=by
  rcases ho with g|g
  ·exact word_refnot r (c:=115) g rfl (by decide) (by decide)
  ·exact word_refnot r (c:=101) g rfl (by decide) (by decide)
 have eh:=head_more r h1 (by omega);rw[eh] at k2 h' ⊢;have eo:=object_more r h2 hlt hR;rw[eo] at h' ⊢;generalize Ps.object s (head s a).t=x at *;generalize head s a=hd at *;rcases body_ok h with ⟨g,s1,s2,s3⟩|⟨g,s2,s3⟩
 ·have bw:=word_bd g.1;have bs:=word_bd s2;have hsl:=stream_ok s1;have hll:=line_more r (a:=(word s x.2.1 streamW).1.toNat) (by omega) hsl.1;have hzn:=size_nn hsl.2.1;have ht:=word_bd hsl.2.2.2.2.1;have ew:=wordMore r g.1 (by omega);obtain⟨t1,t2,t3⟩:=stream_more r (a:=(word s x.2.1 streamW).1.toNat) (by omega) s1 (by omega);rcases body_ok h' with ⟨g',u1,u2,u3⟩|⟨g',_,_⟩
  ·rw[ew,t2] at u2 u3;rw[u3,s3];exact word_last r s2 u2
  ·exact absurd ⟨by rw[ew];exact g.1,g.2⟩ g'
 ·rcases body_ok h' with ⟨g',u1,u2,u3⟩|⟨g',u2,u3⟩
  ·obtain⟨w1,w2,w3,_⟩:=word_ok s2;obtain⟨v1,v2,v3,_⟩:=word_ok g'.1;have m:=(Lx.word_more r (c:=101) w1 w2 (by rw[w3];rfl) (by decide) (by decide)).2 v1 v2;rw[v3] at m;exact absurd m.1 (by decide)
  ·rw[u3,s3];exact word_last r s2 u2
theorem tail_err {s:List UInt8}{h:Hd}{o:Ob}{a:Int}(hz:(tail s h o a).2.2≠0):tail s h o a=bad (tail s h o a).2.2:=by
 unfold tail at hz ⊢;split
 ·rfl
 ·rename_i g;rw[if_neg g] at hz;exact absurd rfl hz
theorem read_err {s:List UInt8}{a len:Int}(h:(read s a len).2.2≠0):read s a len=bad (read s a len).2.2:=by
 unfold read at h ⊢;split
 ·rfl
 rename_i g1
 rw[if_neg g1] at h;split
 ·rfl
 rename_i g2
 rw[if_neg g2] at h;split
 ·rfl
 rename_i g3
 rw[if_neg g3] at h;split
 ·rfl
 rename_i g4
 rw[if_neg g4] at h;unfold body at h ⊢;split
 ·rename_i g5
  rw[if_pos g5] at h;split
  ·rfl
  rename_i g6
  rw[if_neg g6] at h;exact tail_err h
 ·rename_i g5
  rw[if_neg g5] at h;exact tail_err h
theorem cut_bad {i:It}(hc:check i=0)(ht2:(text i).2=0){n:Nat}(hn:n+1 < (text i).1.length):∃e:Int,e≠0∧read ((text i).1.take n) 0 (-1)=bad e:=by
 by_cases hz:(read ((text i).1.take n) 0 (-1)).2.2=0
 case neg=>exact⟨_,hz,read_err hz⟩
 exfalso;have hfull:read (text i).1 0 (-1)=(i,((text i).1.length:Int) - 1,0):=by
  by_cases h9:i.obj.k=9
  ·have:=(back_stream hc h9 ht2 [] [] (len:=-1) (.inl rfl)).1;simpa using this
  ·have:=(back_plain hc h9 [] [] (len:=-1) (by omega)).2.1;simpa using this
 have hs:(text i).1.take n++(text i).1.drop n=(text i).1:=List.take_append_drop n _;have e:=read_ext ((text i).1.drop n) hz (by rw[hs,hfull]);rw[hs,hfull] at e;have b:=read_bd hz;rw[List.length_take] at b;simp only at e;omega
end Bd
end
section
open Go
namespace Bd
theorem without_out {o:Ob}(h:Vl.check 1 o=0)(h7:o.k=7):Vl.lenK ∉ (Vl.without o Vl.lenK).keys:=by
 have hk:Vl.keyed o=true:=by simp[Vl.keyed,h7]
 have hc:=Vl.without_check (key:=Vl.lenK) h hk;have hk':Vl.keyed (Vl.without o Vl.lenK)=true:=by
  have e:(Vl.without o Vl.lenK).k=o.k:=rfl;simp[Vl.keyed,e,h7]
 obtain⟨_,hlen⟩:=Vl.valid_keys hc hk';intro hm;have hg:=Vl.get_without o Vl.lenK;unfold Vl.get at hg;rw[if_pos hk',if_pos (List.idxOf_lt_length_of_mem hm),List.getElem?_eq_getElem (by rw[←hlen];exact List.idxOf_lt_length_of_mem hm)] at hg;cases hg
theorem strm_check {o:Ob}{data:List UInt8}(h:Vl.check 1 o=0)(h7:o.k=7)(hd:data.length≤1048576):Vl.check 1 (strm o data)=0:=by
 have hk:Vl.keyed o=true:=by simp[Vl.keyed,h7]
 have hc:=Vl.without_check (key:=Vl.lenK) h hk;have hout:=without_out h h7;have h7':(Vl.without o Vl.lenK).k=7:=h7;unfold strm;generalize Vl.without o Vl.lenK=x at *;obtain⟨⟨a1,a2,a3,a4,a5,a6,a7⟩,hkids⟩:=Vl.check_iff.1 hc;obtain⟨k,n,g,s,ks,cs⟩:=x;simp only[Ob.k,Ob.n,Ob.g,Ob.s,Ob.keys,Ob.kids] at *;subst h7';refine Vl.check_iff.2 ⟨⟨a1,?_,fun _=>Int.le_refl 1 |> fun _=>by omega,?_,?_,a6,?_⟩,hkids⟩
 ·unfold Vl.usesOk at a2 ⊢;simp only[Ob.k,Ob.n,Ob.g,Ob.s,Ob.keys,Ob.kids,Vl.used] at a2 ⊢
  simp_all
  exact a2.1
 ·simp[Vl.fits,Ob.k]
 ·simpa[Vl.long,Ob.k,Ob.s] using hd
 ·unfold Vl.form at a7 ⊢;simp only[Ob.k] at a7 ⊢;simp only[show decide ((7:Int)=7∨(7:Int)=9)=true by decide,Bool.not_true,Bool.false_or,Bool.and_eq_true] at a7;obtain⟨r1,r2,r3,r4⟩:=Vl.rising_iff.1 a7.2;have hr:Vl.rising (.mk 9 n g data ks cs)=true:=Vl.rising_iff.2 ⟨r1,r2,fun q hq=>⟨(r3 q hq).1,fun _ e=>hout (e▸hq)⟩,r4⟩;simp[hr]
theorem drop_without {o:Ob}(h:Vl.check 1 o=0)(h7:o.k=7):(if Vl.keyed o=true∧Vl.check 1 o=0 then Vl.without o Vl.lenK else o)=Vl.without o Vl.lenK:=by
 rw[if_pos ⟨by simp[Vl.keyed,h7],h⟩]
theorem object_check {s:List UInt8}{a:Int}(h:(Ps.object s a).2.2=0):Vl.check 1 (Ps.object s a).1=0:=by
 unfold Ps.object at h ⊢;split at h
 ·simp[Ps.bad] at h
 ·rename_i g
  rw[if_neg g];exact (Ps.obj_val s 24 (by omega) a h).1
def heldO:Ob:=.mk 9 0 0 [97,98] [] []
def sA:List UInt8:=[49,32,48,32,111,98,106,32,53,32,101,110,100,111,98,106]
def sB:List UInt8:=[49,32,48,32,111,98,106,32,50,32,48,32,82,32,101,110,100,111,98,106]
def sC:List UInt8:=[48,32,48,32,111,98,106,32,53,32,101,110,100,111,98,106]
def sD:List UInt8:=[49,32,48,32,111,98,106,32,53,32,101,110,100]
def sE:List UInt8:=[49,32,48,32,111,98,106,32,53]
def sF:List UInt8:=[52,32,49,32,111,98,106,10,60,60,47,76,101,110,103,116,104,32,50,62,62,10,115,116,114,101,97,109,10,97,98,10,101,110,100,115,116,114,101,97,109,10,101,110,100,111,98,106,10]
def sG:List UInt8:=[49,32,48,32,111,98,106,60,60,47,76,101,110,103,116,104,32,57,32,48,32,82,62,62,115,116,114,101,97,109,13,10,97,98,99,32,101,110,100,115,116,114,101,97,109,32,101,110,100,111,98,106]
def sH:List UInt8:=[49,32,48,32,111,98,106,60,60,62,62,115,116,114,101,97,109,10,97,98,99,32,101,110,100,115,116,114,101,97,109,32,101,110,100,111,98,106]
def sI:List UInt8:=[49,32,48,32,111,98,106,60,60,47,76,101,110,103,116,104,32,57,48,48,62,62,115,116,114,101,97,109,10,97,98,99,32,101,110,100,115,116,114,101,97,109,32,101,110,100,111,98,106]
def sJ:List UInt8:=[49,32,48,32,111,98,106,60,60,47,76,101,110,103,116,104,32,51,62,62,115,116,114,101,97,109,32,97,98,99,32,101,110,100,115,116,114,101,97,109,32,101,110,100,111,98,106]
def sK:List UInt8:=[49,32,48,32,111,98,106,60,60,47,76,101,110,103,116,104,32,57,32,48,32,82,62,62,115,116,114,101,97,109]
def sL:List UInt8:=[49,32,48,32,111,98,106,60,60,47,76,101,110,103,116,104,32,57,62,62,101,110,100,111,98,106]
def sM:List UInt8:=[37,10,49,50,32,51,32,111,98,106,32,120]
def sN:List UInt8:=[51,32,48,32,111,98,106,10,55,10,101,110,100,111,98,106,10]
theorem smp1:text ⟨3,0,.mk 2 7 0 [] [] []⟩=(sN,0):=by decide +kernel
theorem smp2:text ⟨4,1,heldO⟩=(sF,0):=by decide +kernel
theorem smp3:(read sA 0 (-1)).1.num=1∧(read sA 0 (-1)).1.obj.n=5∧(read sA 0 (-1)).2=(16,0):=by decide +kernel
theorem smp4:(read sB 0 (-1)).2.2=10:=by decide +kernel
theorem smp5:(read sC 0 (-1)).2.2=2:=by decide +kernel
theorem smp6:(read sD 0 (-1)).2.2=3:=by decide +kernel
theorem smp7:(read sE 0 (-1)).2.2=4:=by decide +kernel
theorem smp8:(read sF 0 2).1.num=4∧(read sF 0 2).1.gen=1∧Ob.eqb (read sF 0 2).1.obj heldO=true∧(read sF 0 2).2=(48,0):=by decide +kernel
theorem smp9:(read sG 0 3).1.obj.s=[97,98,99]∧(read sG 0 3).1.obj.keys=[]∧(read sG 0 3).2.2=0:=by decide +kernel
theorem smp10:(read sG 0 (-1)).2.2=10:=by decide +kernel
theorem smp11:(read sH 0 (-1)).2.2=3:=by decide +kernel
theorem smp12:(read sI 0 (-1)).2.2=4:=by decide +kernel
theorem smp13:(read sJ 0 (-1)).2.2=3:=by decide +kernel
theorem smp14:(length sK 0).1.k=8∧(length sK 0).1.n=9∧(length sK 0).2=0:=by decide +kernel
theorem smp15:(length sL 0).1.k=0∧(length sL 0).2=0:=by decide +kernel
theorem smp16:head sM 0=⟨12,3,10,0⟩:=by decide +kernel
theorem smp17:(head [] 1).e=1:=by decide +kernel
theorem smp18:check ⟨4,1,heldO⟩=0:=by decide +kernel
theorem smp19:check ⟨1,0,.mk 8 1 0 [] [] []⟩=10:=by decide +kernel
end Bd
end
section
open Go
namespace Bd
theorem itoa_reg {n:Int}(h:0≤n):(Lib.itoa n).all Oc.regular=true∧Lib.itoa n≠[]:=by
 rcases Pl.itoa_shape n with ⟨u,hu,e⟩|⟨u,hu,hp,e⟩
 ·rw[e];refine⟨Lx.dig_all_reg (Pl.dec_val u).2,fun e=>?_⟩;have h1:=Lib.decDigits_length u;rw[e] at h1;have h2:1≤Lib.nDigits u:=by unfold Lib.nDigits;split<;>omega
  simp at h1;omega
 ·omega
theorem glue_reg {acc p:List UInt8}(ha:Oc.regular (Pl.lastC acc)=true)(hp:p≠[])(hr:p.all Oc.regular=true):Pl.glue acc p=acc++[32]++p:=by
 cases p with
|nil=>exact absurd rfl hp
|cons c t=>
  simp only[List.all_cons,Bool.and_eq_true] at hr;show (if ((Oc.regular (Pl.lastC acc)||decide (Pl.lastC acc=47))&&Oc.regular c)=true then acc++[32]++c::t else acc++c::t)=_;rw[if_pos (by rw[ha,hr.1];rfl)]
theorem join_head {a b:Int}(ha:0≤a)(hb:0≤b):Pl.join [Lib.itoa a,Lib.itoa b,objW]=Lib.itoa a++[32]++Lib.itoa b++[32]++objW:=by
 obtain⟨a1,a2⟩:=itoa_reg ha;obtain⟨b1,b2⟩:=itoa_reg hb;have e0:Pl.glue [] (Lib.itoa a)=Lib.itoa a:=by
  cases h:Lib.itoa a with
 |nil=>exact absurd h a2
 |cons c t=>unfold Pl.glue;simp[Pl.lastC,show Oc.regular 32=false by decide]
 have l1:=Lx.lastC_all a2 a1;have l2:Oc.regular (Pl.lastC (Lib.itoa a++[32]++Lib.itoa b))=true:=by rw[Pl.lastC_append _ _ b2];exact Lx.lastC_all b2 b1
 show Pl.glue (Pl.glue (Pl.glue [] (Lib.itoa a)) (Lib.itoa b)) objW=_;rw[e0,glue_reg l1 b2 b1,glue_reg l2 (by decide) (by decide)]
theorem head_join {i:It}(h1:0≤i.num)(h2:0≤i.gen):Pl.join [Lib.itoa i.num,Lib.itoa i.gen,objW]++nl=headT i:=by
 rw[join_head h1 h2];rfl
end Bd
end
section
open Eng
def S_body_caught (t0 t1:Value)(w:World)(K:Ending→World→Prop):Prop:=
 DoX prog (mEq .eql 20 (.tmp 7) (.const .nilIface) t0 .nilIface) w (pk K) fun t9 w=>
 IfX t9 (K (.returned (.tuple #[])) w) (DoX prog (mTA t0 20 96 true) w (pk K) fun t10 w=>
 DoX prog (mExt t10 1) w (pk K) fun t11 w=>
 DoX prog (mExt t10 0) w (pk K) fun t12 w=>
 IfX t11 (DoX prog (mAlloc 96) w (pk K) fun t5 w=>
 DoX prog (mStore 96 t5 t12) w (pk K) fun _ w=>
 DoX prog (mFA 96 t5 0) w (pk K) fun t14 w=>
 DoX prog (mLoad 30 t14) w (pk K) fun t15 w=>
 DoX prog (mNil t1) w (pk K) fun t16 w=>
 DoX prog (mStore 30 t16 t15) w (pk K) fun _ w=>
 K (.returned (.tuple #[])) w) (DoX prog (mPanic t0) w (pk K) fun _ w=>
 K (.returned (.tuple #[])) w))
theorem S_body_caught_eq (t0 t1:Value)(w:World)(K:Ending→World→Prop):wpX prog 17 [] [] none (bodyOf Tryz.f24) (topQ prog [] K) (startX [t0,t1]) [] w=S_body_caught t0 t1 w K:=by kernel_rfl
theorem S_body_caught_ok {t0 t1:Value}{w:World}{K:Ending→World→Prop}(h:S_body_caught t0 t1 w K):Calls prog 24 #[t0,t1] w K:=
 calls_of_wpX Tryz.func24 rfl rfl rfl rfl (Eq.mpr (S_body_caught_eq t0 t1 w K) h)
def S_body_need (t0 t1:Value)(w:World)(K:Ending→World→Prop):Prop:=
 DoX prog (mUn .not t0) w (pk K) fun t5 w=>
 IfX t5 (DoX prog (mBuild 96 #[(0,t1)]) w (pk K) fun t7 w=>
 DoX prog (mIface 96 t7) w (pk K) fun t8 w=>
 DoX prog (mPanic t8) w (pk K) fun _ w=>
 K (.returned (.tuple #[])) w) (K (.returned (.tuple #[])) w)
theorem S_body_need_eq (t0 t1:Value)(w:World)(K:Ending→World→Prop):wpX prog 9 [] [] none (bodyOf Tryz.f26) (topQ prog [] K) (startX [t0,t1]) [] w=S_body_need t0 t1 w K:=by kernel_rfl
theorem S_body_need_ok {t0 t1:Value}{w:World}{K:Ending→World→Prop}(h:S_body_need t0 t1 w K):Calls prog 26 #[t0,t1] w K:=
 calls_of_wpX Tryz.func26 rfl rfl rfl rfl (Eq.mpr (S_body_need_eq t0 t1 w K) h)
def S_body_must_foliant_api_Item (t0 t1:Value)(w:World)(K:Ending→World→Prop):Prop:=
 DoX prog (mBox 27 t0) w (pk K) fun t2 w=>
 DoX prog (mAlloc 27) w (pk K) fun t4 w=>
 DoX prog (mEq .eql 30 (.tmp 5) (.const (.int .i64 0)) t1 (.int .i64 0)) w (pk K) fun t6 w=>
 CallX prog 26 #[t6,t1] w (pk K) fun t8 w=>
 DoX prog (mLoad 27 t2) w (pk K) fun t9 w=>
 DoX prog (mStore 27 t4 t9) w (pk K) fun _ w=>
 RetX prog [.cell t4 27] w K
theorem S_body_must_foliant_api_Item_eq (t0 t1:Value)(w:World)(K:Ending→World→Prop):wpX prog 10 [] [] none (bodyOf Tryz.f42) (topQ prog [.cell 4 27] K) (startX [t0,t1]) [] w=S_body_must_foliant_api_Item t0 t1 w K:=by kernel_rfl
theorem S_body_must_foliant_api_Item_ok {t0 t1:Value}{w:World}{K:Ending→World→Prop}(h:S_body_must_foliant_api_Item t0 t1 w K):Calls prog 42 #[t0,t1] w K:=
 calls_of_wpX Tryz.func42 rfl rfl rfl rfl (Eq.mpr (S_body_must_foliant_api_Item_eq t0 t1 w K) h)
def S_body_must_string (t0 t1:Value)(w:World)(K:Ending→World→Prop):Prop:=
 DoX prog (mEq .eql 30 (.tmp 5) (.const (.int .i64 0)) t1 (.int .i64 0)) w (pk K) fun t6 w=>
 CallX prog 26 #[t6,t1] w (pk K) fun t8 w=>
 K (.returned t0) w
theorem S_body_must_string_eq (t0 t1:Value)(w:World)(K:Ending→World→Prop):wpX prog 10 [] [] none (bodyOf Tryz.f45) (topQ prog [.tmp 4] K) (startX [t0,t1]) [] w=S_body_must_string t0 t1 w K:=by kernel_rfl
theorem S_body_must_string_ok {t0 t1:Value}{w:World}{K:Ending→World→Prop}(h:S_body_must_string t0 t1 w K):Calls prog 45 #[t0,t1] w K:=
 calls_of_wpX Tryz.func45 rfl rfl rfl rfl (Eq.mpr (S_body_must_string_eq t0 t1 w K) h)
def S_body_must_foliant_api_Object (t0 t1:Value)(w:World)(K:Ending→World→Prop):Prop:=
 DoX prog (mBox 25 t0) w (pk K) fun t2 w=>
 DoX prog (mAlloc 25) w (pk K) fun t4 w=>
 DoX prog (mEq .eql 30 (.tmp 5) (.const (.int .i64 0)) t1 (.int .i64 0)) w (pk K) fun t6 w=>
 CallX prog 26 #[t6,t1] w (pk K) fun t8 w=>
 DoX prog (mLoad 25 t2) w (pk K) fun t9 w=>
 DoX prog (mStore 25 t4 t9) w (pk K) fun _ w=>
 RetX prog [.cell t4 25] w K
theorem S_body_must_foliant_api_Object_eq (t0 t1:Value)(w:World)(K:Ending→World→Prop):wpX prog 10 [] [] none (bodyOf Tryz.f47) (topQ prog [.cell 4 25] K) (startX [t0,t1]) [] w=S_body_must_foliant_api_Object t0 t1 w K:=by kernel_rfl
theorem S_body_must_foliant_api_Object_ok {t0 t1:Value}{w:World}{K:Ending→World→Prop}(h:S_body_must_foliant_api_Object t0 t1 w K):Calls prog 47 #[t0,t1] w K:=
 calls_of_wpX Tryz.func47 rfl rfl rfl rfl (Eq.mpr (S_body_must_foliant_api_Object_eq t0 t1 w K) h)
def S_body_must_foliant_api_Token (t0 t1:Value)(w:World)(K:Ending→World→Prop):Prop:=
 DoX prog (mBox 58 t0) w (pk K) fun t2 w=>
 DoX prog (mAlloc 58) w (pk K) fun t4 w=>
 DoX prog (mEq .eql 30 (.tmp 5) (.const (.int .i64 0)) t1 (.int .i64 0)) w (pk K) fun t6 w=>
 CallX prog 26 #[t6,t1] w (pk K) fun t8 w=>
 DoX prog (mLoad 58 t2) w (pk K) fun t9 w=>
 DoX prog (mStore 58 t4 t9) w (pk K) fun _ w=>
 RetX prog [.cell t4 58] w K
theorem S_body_must_foliant_api_Token_eq (t0 t1:Value)(w:World)(K:Ending→World→Prop):wpX prog 10 [] [] none (bodyOf Tryz.f62) (topQ prog [.cell 4 58] K) (startX [t0,t1]) [] w=S_body_must_foliant_api_Token t0 t1 w K:=by kernel_rfl
theorem S_body_must_foliant_api_Token_ok {t0 t1:Value}{w:World}{K:Ending→World→Prop}(h:S_body_must_foliant_api_Token t0 t1 w K):Calls prog 62 #[t0,t1] w K:=
 calls_of_wpX Tryz.func62 rfl rfl rfl rfl (Eq.mpr (S_body_must_foliant_api_Token_eq t0 t1 w K) h)
def S_body_from (t0 t1:Value)(w:World)(K:Ending→World→Prop):Prop:=
 DoX prog (mBin .geq 3 t1 (.int .i64 0)) w (pk K) fun t6 w=>
 GDo t6 true (fun E=>E t1 w) w fun t8 w=>
 GDo t6 true (fun E=>E t0 w) w fun t9 w=>
 GDo t6 true (fun E=>DoX prog (mB .len #[9] 3 #[false] #[t9]) w (pk K) E) w fun t10 w=>
 GDo t6 true (fun E=>DoX prog (mBin .leq 3 t8 t10) w (pk K) E) w fun t11 w=>
 DoX prog (mPick t6 t11 (.bool false)) w (pk K) fun t12 w=>
 CallX prog 26 #[t12,(.int .i64 1)] w (pk K) fun t13 w=>
 DoX prog (mBuild 62 #[(0,t0),(1,t1)]) w (pk K) fun t16 w=>
 DoX prog (mBox 62 t16) w (pk K) fun t17 w=>
 K (.returned t17) w
theorem S_body_from_eq (t0 t1:Value)(w:World)(K:Ending→World→Prop):wpX prog 18 [] [] none (bodyOf Tryz.f25) (topQ prog [.tmp 4] K) (startX [t0,t1]) [] w=S_body_from t0 t1 w K:=by kernel_rfl
theorem S_body_from_ok {t0 t1:Value}{w:World}{K:Ending→World→Prop}(h:S_body_from t0 t1 w K):Calls prog 25 #[t0,t1] w K:=
 calls_of_wpX Tryz.func25 rfl rfl rfl rfl (Eq.mpr (S_body_from_eq t0 t1 w K) h)
def S_body_reader_next_0 (t0 t2 t3:Value)(w:World)(K:Ending→World→Prop):Prop:=
 DoX prog (mFA 58 t3 0) w (pk K) fun t16 w=>
 DoX prog (mLoad 3 t16) w (pk K) fun t17 w=>
 DoX prog (mEq .neq 3 (.tmp 17) (.const (.int .i64 0)) t17 (.int .i64 0)) w (pk K) fun t18 w=>
 CallX prog 26 #[t18,(.int .i64 4)] w (pk K) fun t19 w=>
 DoX prog (mFA 58 t3 2) w (pk K) fun t21 w=>
 DoX prog (mLoad 3 t21) w (pk K) fun t22 w=>
 DoX prog (mNil t0) w (pk K) fun t23 w=>
 DoX prog (mFA 62 t23 1) w (pk K) fun t24 w=>
 DoX prog (mStore 3 t24 t22) w (pk K) fun _ w=>
 DoX prog (mLoad 58 t3) w (pk K) fun t25 w=>
 DoX prog (mStore 58 t2 t25) w (pk K) fun _ w=>
 RetX prog [.cell t2 58] w K
def S_body_reader_next (t0:Value)(w:World)(K:Ending→World→Prop):Prop:=
 DoX prog (mAlloc 58) w (pk K) fun t2 w=>
 HeldX w (fun S1 w=>
 HDo prog (fun _=>True) (mNil t0) fun t5=>
 HDo prog (fun _=>True) (mFA 62 t5 0) fun t6=>
 HDo prog S1 (mLoad 9 t6) fun t7=>
 HDo prog (fun _=>True) (mNil t0) fun t9=>
 HDo prog (fun _=>True) (mFA 62 t9 1) fun t10=>
 HDo prog S1 (mLoad 3 t10) fun t11=>
 (CallX prog 35 #[t7,t11] w (pm1 (pm1 (pm1 (pm1 (pm1 (pm1 (pm1 (pm1 (pm1 (pm1 (pk K))))))))))) fun t12 w=>
 (HDo prog (fun _=>True) (mExt t12 0) fun t13=>
 HDo prog (fun _=>True) (mExt t12 1) fun t14=>
 (CallX prog 62 #[t13,t14] w (pm1 (pm1 (pm1 (pm1 (pm1 (pm1 (pm1 (pm1 (pm1 (pm1 (pk K))))))))))) fun t15 w=>
 S1 w∧(DoX prog (mAlloc 58) w (pm1 (pm1 (pm1 (pm1 (pm1 (pm1 (pm1 (pm1 (pm1 (pm1 (pk K))))))))))) fun t3 w=>
 S1 w∧(DoX prog (mStore 58 t3 t15) w (pm1 (pm1 (pm1 (pm1 (pm1 (pm1 (pm1 (pm1 (pm1 (pm1 (pk K))))))))))) fun _ w=>
 (S_body_reader_next_0 t0 t2 t3 w K))))∧(DoX prog (mAlloc 58) w (pm1 (pm1 (pm1 (pm1 (pm1 (pm1 (pm1 (pm1 (pm1 (pm1 (pk K))))))))))) fun t3_1 w=>
 S1 w∧(CallX prog 62 #[t13,t14] w (pm1 (pm1 (pm1 (pm1 (pm1 (pm1 (pm1 (pm1 (pm1 (pm1 (pk K))))))))))) fun t15_1 w=>
 S1 w∧(DoX prog (mStore 58 t3_1 t15_1) w (pm1 (pm1 (pm1 (pm1 (pm1 (pm1 (pm1 (pm1 (pm1 (pm1 (pk K))))))))))) fun _ w=>
 (S_body_reader_next_0 t0 t2 t3_1 w K))))))∧(DoX prog (mAlloc 58) w (pm1 (pm1 (pm1 (pm1 (pm1 (pm1 (pm1 (pm1 (pm1 (pm1 (pk K))))))))))) fun t3_2 w=>
 S1 w∧(CallX prog 35 #[t7,t11] w (pm1 (pm1 (pm1 (pm1 (pm1 (pm1 (pm1 (pm1 (pm1 (pm1 (pk K))))))))))) fun t12_1 w=>
 (HDo prog (fun _=>True) (mExt t12_1 0) fun t13_1=>
 HDo prog (fun _=>True) (mExt t12_1 1) fun t14_1=>
 CallX prog 62 #[t13_1,t14_1] w (pm1 (pm1 (pm1 (pm1 (pm1 (pm1 (pm1 (pm1 (pm1 (pm1 (pk K))))))))))) fun t15_2 w=>
 S1 w∧(DoX prog (mStore 58 t3_2 t15_2) w (pm1 (pm1 (pm1 (pm1 (pm1 (pm1 (pm1 (pm1 (pm1 (pm1 (pk K))))))))))) fun _ w=>
 (S_body_reader_next_0 t0 t2 t3_2 w K))))))
theorem S_body_reader_next_eq (t0:Value)(w:World)(K:Ending→World→Prop):wpX prog 26 [] [] none (bodyOf Tryz.f29) (topQ prog [.cell 2 58] K) (startX [t0]) [] w=S_body_reader_next t0 w K:=by kernel_rfl
theorem S_body_reader_next_ok {t0:Value}{w:World}{K:Ending→World→Prop}(h:S_body_reader_next t0 w K):Calls prog 29 #[t0] w K:=
 calls_of_wpX Tryz.func29 rfl rfl rfl rfl (Eq.mpr (S_body_reader_next_eq t0 w K) h)
def S_body_reader_word (t0 t1:Value)(w:World)(K:Ending→World→Prop):Prop:=
 CallX prog 29 #[t0] w (pk K) fun t6 w=>
 DoX prog (mAlloc 58) w (pk K) fun t4 w=>
 DoX prog (mStore 58 t4 t6) w (pk K) fun _ w=>
 DoX prog (mFA 58 t4 0) w (pk K) fun t7 w=>
 DoX prog (mLoad 3 t7) w (pk K) fun t8 w=>
 DoX prog (mEq .eql 3 (.tmp 8) (.const (.int .i64 5)) t8 (.int .i64 5)) w (pk K) fun t9 w=>
 GDo t9 true (fun E=>DoX prog (mFA 58 t4 4) w (pk K) E) w fun t11 w=>
 GDo t9 true (fun E=>DoX prog (mLoad 9 t11) w (pk K) E) w fun t12 w=>
 GDo t9 true (fun E=>E t1 w) w fun t13 w=>
 GDo t9 true (fun E=>DoX prog (mEq .eql 9 (.tmp 12) (.tmp 13) t12 t13) w (pk K) E) w fun t14 w=>
 DoX prog (mPick t9 t14 (.bool false)) w (pk K) fun t15 w=>
 CallX prog 26 #[t15,(.int .i64 3)] w (pk K) fun t16 w=>
 K (.returned (.tuple #[])) w
theorem S_body_reader_word_eq (t0 t1:Value)(w:World)(K:Ending→World→Prop):wpX prog 17 [] [] none (bodyOf Tryz.f60) (topQ prog [] K) (startX [t0,t1]) [] w=S_body_reader_word t0 t1 w K:=by kernel_rfl
theorem S_body_reader_word_ok {t0 t1:Value}{w:World}{K:Ending→World→Prop}(h:S_body_reader_word t0 t1 w K):Calls prog 60 #[t0,t1] w K:=
 calls_of_wpX Tryz.func60 rfl rfl rfl rfl (Eq.mpr (S_body_reader_word_eq t0 t1 w K) h)
def S_body_reader_number (t0 t1 t2:Value)(w:World)(K:Ending→World→Prop):Prop:=
 CallX prog 29 #[t0] w (pk K) fun t9 w=>
 DoX prog (mAlloc 58) w (pk K) fun t7 w=>
 DoX prog (mStore 58 t7 t9) w (pk K) fun _ w=>
 DoX prog (mFA 58 t7 0) w (pk K) fun t10 w=>
 DoX prog (mLoad 3 t10) w (pk K) fun t11 w=>
 DoX prog (mEq .eql 3 (.tmp 11) (.const (.int .i64 1)) t11 (.int .i64 1)) w (pk K) fun t12 w=>
 CallX prog 26 #[t12,(.int .i64 3)] w (pk K) fun t13 w=>
 DoX prog (mFA 58 t7 3) w (pk K) fun t14 w=>
 DoX prog (mLoad 2 t14) w (pk K) fun t15 w=>
 DoX prog (mBin .geq 2 t15 t1) w (pk K) fun t17 w=>
 GDo t17 true (fun E=>DoX prog (mFA 58 t7 3) w (pk K) E) w fun t19 w=>
 GDo t17 true (fun E=>DoX prog (mLoad 2 t19) w (pk K) E) w fun t20 w=>
 GDo t17 true (fun E=>E t2 w) w fun t21 w=>
 GDo t17 true (fun E=>DoX prog (mBin .leq 2 t20 t21) w (pk K) E) w fun t22 w=>
 DoX prog (mPick t17 t22 (.bool false)) w (pk K) fun t23 w=>
 CallX prog 26 #[t23,(.int .i64 2)] w (pk K) fun t24 w=>
 DoX prog (mFA 58 t7 3) w (pk K) fun t25 w=>
 DoX prog (mLoad 2 t25) w (pk K) fun t26 w=>
 K (.returned t26) w
theorem S_body_reader_number_eq (t0 t1 t2:Value)(w:World)(K:Ending→World→Prop):wpX prog 27 [] [] none (bodyOf Tryz.f59) (topQ prog [.tmp 6] K) (startX [t0,t1,t2]) [] w=S_body_reader_number t0 t1 t2 w K:=by kernel_rfl
theorem S_body_reader_number_ok {t0 t1 t2:Value}{w:World}{K:Ending→World→Prop}(h:S_body_reader_number t0 t1 t2 w K):Calls prog 59 #[t0,t1,t2] w K:=
 calls_of_wpX Tryz.func59 rfl rfl rfl rfl (Eq.mpr (S_body_reader_number_eq t0 t1 t2 w K) h)
def S_body_reader_head (t0:Value)(w:World)(K:Ending→World→Prop):Prop:=
 CallX prog 59 #[t0,(.int .i64 1),(.int .i64 8191)] w (pk K) fun t5 w=>
 CallX prog 59 #[t0,(.int .i64 0),(.int .i64 65535)] w (pk K) fun t7 w=>
 CallX prog 60 #[t0,(.string ⟨#[111,98,106]⟩)] w (pk K) fun t9 w=>
 K (.returned (.tuple #[t5,t7])) w
theorem S_body_reader_head_eq (t0:Value)(w:World)(K:Ending→World→Prop):wpX prog 12 [] [] none (bodyOf Tryz.f27) (topQ prog [.tmp 2,.tmp 3] K) (startX [t0]) [] w=S_body_reader_head t0 w K:=by kernel_rfl
theorem S_body_reader_head_ok {t0:Value}{w:World}{K:Ending→World→Prop}(h:S_body_reader_head t0 w K):Calls prog 27 #[t0] w K:=
 calls_of_wpX Tryz.func27 rfl rfl rfl rfl (Eq.mpr (S_body_reader_head_eq t0 w K) h)
def S_body_reader_object_0 (t0 t2 t3 t4 t5:Value)(w:World)(K:Ending→World→Prop):Prop:=
 DoX prog (mEq .eql 30 (.tmp 19) (.const (.int .i64 0)) t5 (.int .i64 0)) w (pk K) fun t20 w=>
 CallX prog 26 #[t20,t5] w (pk K) fun t22 w=>
 DoX prog (mNil t0) w (pk K) fun t25 w=>
 DoX prog (mFA 62 t25 1) w (pk K) fun t26 w=>
 DoX prog (mStore 3 t26 t4) w (pk K) fun _ w=>
 DoX prog (mLoad 25 t3) w (pk K) fun t27 w=>
 DoX prog (mStore 25 t2 t27) w (pk K) fun _ w=>
 RetX prog [.cell t2 25] w K
def S_body_reader_object (t0:Value)(w:World)(K:Ending→World→Prop):Prop:=
 DoX prog (mAlloc 25) w (pk K) fun t2 w=>
 HeldX w (fun S1 w=>
 HDo prog (fun _=>True) (mNil t0) fun t8=>
 HDo prog (fun _=>True) (mFA 62 t8 0) fun t9=>
 HDo prog S1 (mLoad 9 t9) fun t10=>
 HDo prog (fun _=>True) (mNil t0) fun t12=>
 HDo prog (fun _=>True) (mFA 62 t12 1) fun t13=>
 HDo prog S1 (mLoad 3 t13) fun t14=>
 (CallX prog 61 #[t10,t14] w (pm1 (pm1 (pm1 (pm1 (pm1 (pm1 (pm1 (pm1 (pm1 (pm1 (pm1 (pm1 (pm1 (pm1 (pk K))))))))))))))) fun t15 w=>
 (HDo prog (fun _=>True) (mExt t15 0) fun t16=>
 HDo prog (fun _=>True) (mExt t15 1) fun t17=>
 HDo prog (fun _=>True) (mExt t15 2) fun t18=>
 DoX prog (mAlloc 25) w (pm1 (pm1 (pm1 (pm1 (pm1 (pm1 (pm1 (pm1 (pm1 (pm1 (pm1 (pm1 (pm1 (pm1 (pk K))))))))))))))) fun t3 w=>
 S1 w∧(DoX prog (mStore 25 t3 t16) w (pm1 (pm1 (pm1 (pm1 (pm1 (pm1 (pm1 (pm1 (pm1 (pm1 (pm1 (pm1 (pm1 (pm1 (pk K))))))))))))))) fun _ w=>
 (S_body_reader_object_0 t0 t2 t3 t17 t18 w K))))∧(DoX prog (mAlloc 25) w (pm1 (pm1 (pm1 (pm1 (pm1 (pm1 (pm1 (pm1 (pm1 (pm1 (pm1 (pm1 (pm1 (pm1 (pk K))))))))))))))) fun t3_1 w=>
 S1 w∧(CallX prog 61 #[t10,t14] w (pm1 (pm1 (pm1 (pm1 (pm1 (pm1 (pm1 (pm1 (pm1 (pm1 (pm1 (pm1 (pm1 (pm1 (pk K))))))))))))))) fun t15_1 w=>
 (HDo prog (fun _=>True) (mExt t15_1 0) fun t16_1=>
 HDo prog (fun _=>True) (mExt t15_1 1) fun t17_1=>
 HDo prog (fun _=>True) (mExt t15_1 2) fun t18_1=>
 DoX prog (mStore 25 t3_1 t16_1) w (pm1 (pm1 (pm1 (pm1 (pm1 (pm1 (pm1 (pm1 (pm1 (pm1 (pm1 (pm1 (pm1 (pm1 (pk K))))))))))))))) fun _ w=>
 (S_body_reader_object_0 t0 t2 t3_1 t17_1 t18_1 w K)))))
theorem S_body_reader_object_eq (t0:Value)(w:World)(K:Ending→World→Prop):wpX prog 28 [] [] none (bodyOf Tryz.f28) (topQ prog [.cell 2 25] K) (startX [t0]) [] w=S_body_reader_object t0 w K:=by kernel_rfl
theorem S_body_reader_object_ok {t0:Value}{w:World}{K:Ending→World→Prop}(h:S_body_reader_object t0 w K):Calls prog 28 #[t0] w K:=
 calls_of_wpX Tryz.func28 rfl rfl rfl rfl (Eq.mpr (S_body_reader_object_eq t0 w K) h)
def S_body_Head_p0 (x0:Deferred)(x1:Value)(x2:Value)(x3:Value)(x4:Value)(K:Ending→World→Prop):=pd prog [.cell x1 3,.cell x2 3,.cell x3 3,.cell x4 30] K [x0]
def S_body_Head (t0 t1:Value)(w:World)(K:Ending→World→Prop):Prop:=
 DoX prog (mAlloc 3) w (pk K) fun t4 w=>
 DoX prog (mAlloc 3) w (pk K) fun t5 w=>
 DoX prog (mAlloc 3) w (pk K) fun t6 w=>
 DoX prog (mAlloc 30) w (pk K) fun t7 w=>
 DoX prog (mFunc (.func 39) #[] #[t7,t4,t5,t6]) w (pk K) fun t9 w=>
 DfrX (dfrV t9 #[]) (fun d1=>
 CallX prog 25 #[t0,t1] w (S_body_Head_p0 d1 t4 t5 t6 t7 K) fun t12 w=>
 CallX prog 27 #[t12] w (S_body_Head_p0 d1 t4 t5 t6 t7 K) fun t15 w=>
 DoX prog (mExt t15 0) w (S_body_Head_p0 d1 t4 t5 t6 t7 K) fun t16 w=>
 DoX prog (mExt t15 1) w (S_body_Head_p0 d1 t4 t5 t6 t7 K) fun t17 w=>
 DoX prog (mStore 3 t4 t16) w (S_body_Head_p0 d1 t4 t5 t6 t7 K) fun _ w=>
 DoX prog (mStore 3 t5 t17) w (S_body_Head_p0 d1 t4 t5 t6 t7 K) fun _ w=>
 HeldX w (fun S2 w=>
 HDo prog S2 (mLoad 3 t4) fun t18=>
 HDo prog S2 (mLoad 3 t5) fun t19=>
 HDo prog (fun _=>True) (mNil t12) fun t21=>
 HDo prog (fun _=>True) (mFA 62 t21 1) fun t22=>
 HDo prog S2 (mLoad 3 t22) fun t23=>
 DoX prog (mStore 3 t4 t18) w (pm1 (pm1 (pm1 (pm1 (pm1 (pm1 (S_body_Head_p0 d1 t4 t5 t6 t7 K))))))) fun _ w=>
 S2 w∧(DoX prog (mStore 3 t5 t19) w (pm1 (pm1 (pm1 (pm1 (pm1 (pm1 (S_body_Head_p0 d1 t4 t5 t6 t7 K))))))) fun _ w=>
 S2 w∧(DoX prog (mStore 3 t6 t23) w (pm1 (pm1 (pm1 (pm1 (pm1 (pm1 (S_body_Head_p0 d1 t4 t5 t6 t7 K))))))) fun _ w=>
 (DoX prog (mStore 30 t7 (.int .i64 0)) w (pm1 (pm1 (pm1 (pm1 (pm1 (pm1 (S_body_Head_p0 d1 t4 t5 t6 t7 K))))))) fun _ w=>
 (Leave prog [.cell t4 3,.cell t5 3,.cell t6 3,.cell t7 30] K [d1] .returning w))))))
theorem S_body_Head_eq (t0 t1:Value)(w:World)(K:Ending→World→Prop):wpX prog 24 [] [] none (bodyOf Tryz.f13) (topQ prog [.cell 4 3,.cell 5 3,.cell 6 3,.cell 7 30] K) (startX [t0,t1]) [] w=S_body_Head t0 t1 w K:=by kernel_rfl
theorem S_body_Head_ok {t0 t1:Value}{w:World}{K:Ending→World→Prop}(h:S_body_Head t0 t1 w K):Calls prog 13 #[t0,t1] w K:=
 calls_of_wpX Tryz.func13 rfl rfl rfl rfl (Eq.mpr (S_body_Head_eq t0 t1 w K) h)
def S_body_Check (t0:Value)(w:World)(K:Ending→World→Prop):Prop:=
 DoX prog (mBox 27 t0) w (pk K) fun t1 w=>
 DoX prog (mFA 27 t1 0) w (pk K) fun t4 w=>
 DoX prog (mLoad 3 t4) w (pk K) fun t5 w=>
 DoX prog (mBin .lss 3 t5 (.int .i64 1)) w (pk K) fun t6 w=>
 GDo t6 false (fun E=>DoX prog (mFA 27 t1 0) w (pk K) E) w fun t8 w=>
 GDo t6 false (fun E=>DoX prog (mLoad 3 t8) w (pk K) E) w fun t9 w=>
 GDo t6 false (fun E=>DoX prog (mBin .gtr 3 t9 (.int .i64 8191)) w (pk K) E) w fun t10 w=>
 DoX prog (mPick t6 (.bool true) t10) w (pk K) fun t11 w=>
 GDo t11 false (fun E=>DoX prog (mFA 27 t1 1) w (pk K) E) w fun t13 w=>
 GDo t11 false (fun E=>DoX prog (mLoad 3 t13) w (pk K) E) w fun t14 w=>
 GDo t11 false (fun E=>DoX prog (mBin .lss 3 t14 (.int .i64 0)) w (pk K) E) w fun t15 w=>
 DoX prog (mPick t11 (.bool true) t15) w (pk K) fun t16 w=>
 GDo t16 false (fun E=>DoX prog (mFA 27 t1 1) w (pk K) E) w fun t18 w=>
 GDo t16 false (fun E=>DoX prog (mLoad 3 t18) w (pk K) E) w fun t19 w=>
 GDo t16 false (fun E=>DoX prog (mBin .gtr 3 t19 (.int .i64 65535)) w (pk K) E) w fun t20 w=>
 DoX prog (mPick t16 (.bool true) t20) w (pk K) fun t21 w=>
 IfX t21 (K (.returned (.int .i64 2)) w) (DoX prog (mFA 27 t1 2) w (pk K) fun t22 w=>
 DoX prog (mLoad 25 t22) w (pk K) fun t23 w=>
 CallX prog 57 #[t23] w (pk K) fun t24 w=>
 DoX prog (mEq .neq 30 (.tmp 25) (.const (.int .i64 0)) t24 (.int .i64 0)) w (pk K) fun t26 w=>
 IfX t26 (K (.returned t24) w) (DoX prog (mFA 27 t1 2) w (pk K) fun t28 w=>
 DoX prog (mFA 25 t28 0) w (pk K) fun t29 w=>
 DoX prog (mLoad 3 t29) w (pk K) fun t30 w=>
 DoX prog (mEq .eql 3 (.tmp 30) (.const (.int .i64 8)) t30 (.int .i64 8)) w (pk K) fun t31 w=>
 IfX t31 (K (.returned (.int .i64 10)) w) (K (.returned (.int .i64 0)) w)))
theorem S_body_Check_eq (t0:Value)(w:World)(K:Ending→World→Prop):wpX prog 32 [] [] none (bodyOf Tryz.f18) (topQ prog [.tmp 2] K) (startX [t0]) [] w=S_body_Check t0 w K:=by kernel_rfl
theorem S_body_Check_ok {t0:Value}{w:World}{K:Ending→World→Prop}(h:S_body_Check t0 w K):Calls prog 18 #[t0] w K:=
 calls_of_wpX Tryz.func18 rfl rfl rfl rfl (Eq.mpr (S_body_Check_eq t0 w K) h)
def S_body_reader_line_0 (t0 t2 t21 t22 t23:Value)(w:World)(N2:List Value→World→Prop)(K:Ending→World→Prop):Prop:=
 DoX prog (mBin .lss 3 t23 t22) w (pk K) fun t24 w=>
 IfX t24 (DoX prog (mIA 22 t21 t23) w (pk K) fun t25 w=>
 DoX prog (mLoad 9 t25) w (pk K) fun t26 w=>
 CallX prog 73 #[t2,t26,(.int .i64 0)] w (pk K) fun t29 w=>
 IfX t29 (DoX prog (mNil t0) w (pk K) fun t31 w=>
 DoX prog (mFA 62 t31 1) w (pk K) fun t32 w=>
 DoX prog (mLoad 3 t32) w (pk K) fun t33 w=>
 DoX prog (mB .len #[9] 3 #[false] #[t26]) w (pk K) fun t35 w=>
 DoX prog (mBin .add 3 t33 t35) w (pk K) fun t36 w=>
 DoX prog (mNil t0) w (pk K) fun t37 w=>
 DoX prog (mFA 62 t37 1) w (pk K) fun t38 w=>
 DoX prog (mStore 3 t38 t36) w (pk K) fun _ w=>
 K (.returned (.tuple #[])) w) (DoX prog (mBin .add 3 t23 (.int .i64 1)) w (pk K) fun t39 w=>
 N2 [t39] w)) (CallX prog 26 #[(.bool false),(.int .i64 3)] w (pk K) fun t40 w=>
 K (.returned (.tuple #[])) w)
def S_body_reader_line (t0:Value)(w:World)(K:Ending→World→Prop):Prop:=
 QuietX w (fun C1=>
 QDo prog C1 (mNil t0) fun t6=>
 QDo prog C1 (mFA 62 t6 0) fun t7=>
 QDo prog C1 (mLoad 9 t7) fun t8=>
 QDo prog C1 (mNil t0) fun t10=>
 QDo prog C1 (mFA 62 t10 1) fun t11=>
 QDo prog C1 (mLoad 3 t11) fun t12=>
 QDo prog C1 (mSlice 9 t8 (some t12) none none) fun t13=>
 ∀w,C1 w →
 DoX prog (mEq .neq 9 (.tmp 14) (.const (.string ⟨#[]⟩)) t13 (.string ⟨#[]⟩)) w (pk K) fun t15 w=>
 GDo t15 true (fun E=>E t13 w) w fun t17 w=>
 GDo t15 true (fun E=>DoX prog (mEq .neq 9 (.tmp 17) (.const (.string ⟨#[13]⟩)) t17 (.string ⟨#[13]⟩)) w (pk K) E) w fun t18 w=>
 DoX prog (mPick t15 t18 (.bool false)) w (pk K) fun t19 w=>
 CallX prog 26 #[t19,(.int .i64 4)] w (pk K) fun t20 w=>
 DoX prog (mBuildS 22 2 #[(0,(.string ⟨#[10]⟩)),(1,(.string ⟨#[13,10]⟩))]) w (pk K) fun t21 w=>
 DoX prog (mB .len #[22] 3 #[false] #[t21]) w (pk K) fun t22 w=>
 LoopX [(.int .i64 0)] w (fun vs2 w N2=>∀_:Sg,S_body_reader_line_0 t0 t13 t21 t22 (vs2.getD 0 undef) w N2 K))
theorem S_body_reader_line_eq (t0:Value)(w:World)(K:Ending→World→Prop):wpX prog 41 [] [(3,[23])] none (bodyOf Tryz.f63) (topQ prog [] K) (startX [t0]) [] w=S_body_reader_line t0 w K:=by kernel_rfl
theorem S_body_reader_line_ok {t0:Value}{w:World}{K:Ending→World→Prop}(h:S_body_reader_line t0 w K):Calls prog 63 #[t0] w K:=
 calls_of_wpX Tryz.func63 rfl rfl rfl rfl (Eq.mpr (S_body_reader_line_eq t0 w K) h)
def S_body_own (t0:Value)(w:World)(K:Ending→World→Prop):Prop:=
 DoX prog (mBox 25 t0) w (pk K) fun t1 w=>
 DoX prog (mLoad 25 t1) w (pk K) fun t6 w=>
 CallX prog 37 #[t6,(.string ⟨#[76,101,110,103,116,104]⟩)] w (pk K) fun t7 w=>
 DoX prog (mExt t7 0) w (pk K) fun t8 w=>
 DoX prog (mExt t7 1) w (pk K) fun t9 w=>
 DoX prog (mAlloc 25) w (pk K) fun t3 w=>
 DoX prog (mStore 25 t3 t8) w (pk K) fun _ w=>
 CallX prog 26 #[t9,(.int .i64 3)] w (pk K) fun t11 w=>
 DoX prog (mFA 25 t3 0) w (pk K) fun t12 w=>
 DoX prog (mLoad 3 t12) w (pk K) fun t13 w=>
 DoX prog (mEq .eql 3 (.tmp 13) (.const (.int .i64 2)) t13 (.int .i64 2)) w (pk K) fun t14 w=>
 CallX prog 26 #[t14,(.int .i64 10)] w (pk K) fun t15 w=>
 DoX prog (mFA 25 t3 1) w (pk K) fun t16 w=>
 DoX prog (mLoad 2 t16) w (pk K) fun t17 w=>
 DoX prog (mBin .geq 2 t17 (.int .i64 0)) w (pk K) fun t18 w=>
 CallX prog 26 #[t18,(.int .i64 2)] w (pk K) fun t19 w=>
 DoX prog (mFA 25 t3 1) w (pk K) fun t20 w=>
 DoX prog (mLoad 2 t20) w (pk K) fun t21 w=>
 K (.returned t21) w
theorem S_body_own_eq (t0:Value)(w:World)(K:Ending→World→Prop):wpX prog 22 [] [] none (bodyOf Tryz.f64) (topQ prog [.tmp 2] K) (startX [t0]) [] w=S_body_own t0 w K:=by kernel_rfl
theorem S_body_own_ok {t0:Value}{w:World}{K:Ending→World→Prop}(h:S_body_own t0 w K):Calls prog 64 #[t0] w K:=
 calls_of_wpX Tryz.func64 rfl rfl rfl rfl (Eq.mpr (S_body_own_eq t0 w K) h)
def S_body_reader_stream_0 (t0 t2 t4 t6:Value)(w:World)(K:Ending→World→Prop):Prop:=
 DoX prog (mBin .leq 3 t2 (.int .i64 1048576)) w (pk K) fun t15 w=>
 CallX prog 26 #[t15,(.int .i64 5)] w (pk K) fun t16 w=>
 QuietX w (fun C2=>
 QDo prog C2 (mNil t0) fun t19=>
 QDo prog C2 (mFA 62 t19 0) fun t20=>
 QDo prog C2 (mLoad 9 t20) fun t21=>
 QDo prog C2 (mB .len #[9] 3 #[false] #[t21]) fun t22=>
 QDo prog C2 (mNil t0) fun t24=>
 QDo prog C2 (mFA 62 t24 1) fun t25=>
 QDo prog C2 (mLoad 3 t25) fun t26=>
 QDo prog C2 (mBin .sub 3 t22 t26) fun t27=>
 QDo prog C2 (mBin .leq 3 t2 t27) fun t28=>
 ∀w,C2 w →
 CallX prog 26 #[t28,(.int .i64 4)] w (pk K) fun t29 w=>
 QuietX w (fun C3=>
 QDo prog C3 (mNil t0) fun t31=>
 QDo prog C3 (mFA 62 t31 0) fun t32=>
 QDo prog C3 (mLoad 9 t32) fun t33=>
 QDo prog C3 (mNil t0) fun t35=>
 QDo prog C3 (mFA 62 t35 1) fun t36=>
 QDo prog C3 (mLoad 3 t36) fun t37=>
 QDo prog C3 (mNil t0) fun t39=>
 QDo prog C3 (mFA 62 t39 1) fun t40=>
 QDo prog C3 (mLoad 3 t40) fun t41=>
 QDo prog C3 (mBin .add 3 t41 t2) fun t43=>
 QDo prog C3 (mSlice 9 t33 (some t37) (some t43) none) fun t44=>
 ∀w,C3 w →
 DoX prog (mNil t0) w (pk K) fun t46 w=>
 DoX prog (mFA 62 t46 1) w (pk K) fun t47 w=>
 DoX prog (mLoad 3 t47) w (pk K) fun t48 w=>
 DoX prog (mBin .add 3 t48 t2) w (pk K) fun t50 w=>
 DoX prog (mNil t0) w (pk K) fun t51 w=>
 DoX prog (mFA 62 t51 1) w (pk K) fun t52 w=>
 DoX prog (mStore 3 t52 t50) w (pk K) fun _ w=>
 CallX prog 60 #[t0,(.string ⟨#[101,110,100,115,116,114,101,97,109]⟩)] w (pk K) fun t54 w=>
 CallX prog 60 #[t0,(.string ⟨#[101,110,100,111,98,106]⟩)] w (pk K) fun t56 w=>
 DoX prog (mLoad 25 t4) w (pk K) fun t57 w=>
 CallX prog 65 #[t57,t44] w (pk K) fun t59 w=>
 DoX prog (mExt t59 0) w (pk K) fun t60 w=>
 DoX prog (mExt t59 1) w (pk K) fun t61 w=>
 CallX prog 47 #[t60,t61] w (pk K) fun t62 w=>
 DoX prog (mStore 25 t6 t62) w (pk K) fun _ w=>
 RetX prog [.cell t6 25] w K))
def S_body_reader_stream (t0 t1 t2:Value)(w:World)(K:Ending→World→Prop):Prop:=
 DoX prog (mBox 25 t1) w (pk K) fun t4 w=>
 DoX prog (mAlloc 25) w (pk K) fun t6 w=>
 CallX prog 63 #[t0] w (pk K) fun t9 w=>
 JoinX (fun J1=>
 DoX prog (mBin .lss 3 t2 (.int .i64 0)) w (pk K) fun t11 w=>
 IfX t11 (DoX prog (mLoad 25 t4) w (pk K) fun t12 w=>
 CallX prog 64 #[t12] w (pk K) fun t13 w=>
 J1 [t13] w) (J1 [t2] w)) (fun vs1 w=>∀_:Sg,S_body_reader_stream_0 t0 (vs1.getD 0 undef) t4 t6 w K)
theorem S_body_reader_stream_eq (t0 t1 t2:Value)(w:World)(K:Ending→World→Prop):wpX prog 63 [(4,[2])] [] none (bodyOf Tryz.f30) (topQ prog [.cell 6 25] K) (startX [t0,t1,t2]) [] w=S_body_reader_stream t0 t1 t2 w K:=by kernel_rfl
theorem S_body_reader_stream_ok {t0 t1 t2:Value}{w:World}{K:Ending→World→Prop}(h:S_body_reader_stream t0 t1 t2 w K):Calls prog 30 #[t0,t1,t2] w K:=
 calls_of_wpX Tryz.func30 rfl rfl rfl rfl (Eq.mpr (S_body_reader_stream_eq t0 t1 t2 w K) h)
def S_body_Read_p0 (x0:Deferred)(x1:Value)(x2:Value)(x3:Value)(K:Ending→World→Prop):=pd prog [.cell x1 27,.cell x2 3,.cell x3 30] K [x0]
def S_body_Read_0 (t6 t7 t8 t9:Value)(d1:Deferred)(w:World)(K:Ending→World→Prop):Prop:=
 HeldX w (fun S3 w=>
 HDo prog S3 (mLoad 27 t6) fun t66=>
 HDo prog (fun _=>True) (mNil t9) fun t68=>
 HDo prog (fun _=>True) (mFA 62 t68 1) fun t69=>
 HDo prog S3 (mLoad 3 t69) fun t70=>
 DoX prog (mStore 27 t6 t66) w (pm1 (pm1 (pm1 (pm1 (pm1 (S_body_Read_p0 d1 t6 t7 t8 K)))))) fun _ w=>
 S3 w∧(DoX prog (mStore 3 t7 t70) w (pm1 (pm1 (pm1 (pm1 (pm1 (S_body_Read_p0 d1 t6 t7 t8 K)))))) fun _ w=>
 (DoX prog (mStore 30 t8 (.int .i64 0)) w (pm1 (pm1 (pm1 (pm1 (pm1 (S_body_Read_p0 d1 t6 t7 t8 K)))))) fun _ w=>
 (Leave prog [.cell t6 27,.cell t7 3,.cell t8 30] K [d1] .returning w))))
def S_body_Read (t0 t1 t2:Value)(w:World)(K:Ending→World→Prop):Prop:=
 DoX prog (mAlloc 27) w (pk K) fun t6 w=>
 DoX prog (mAlloc 3) w (pk K) fun t7 w=>
 DoX prog (mAlloc 30) w (pk K) fun t8 w=>
 DoX prog (mFunc (.func 23) #[] #[t8,t6,t7]) w (pk K) fun t11 w=>
 DfrX (dfrV t11 #[]) (fun d1=>
 CallX prog 25 #[t0,t1] w (S_body_Read_p0 d1 t6 t7 t8 K) fun t14 w=>
 DoX prog (mBin .geq 3 t2 (.int .i64 (-1))) w (S_body_Read_p0 d1 t6 t7 t8 K) fun t16 w=>
 CallX prog 26 #[t16,(.int .i64 1)] w (S_body_Read_p0 d1 t6 t7 t8 K) fun t17 w=>
 CallX prog 27 #[t14] w (S_body_Read_p0 d1 t6 t7 t8 K) fun t20 w=>
 DoX prog (mExt t20 0) w (S_body_Read_p0 d1 t6 t7 t8 K) fun t21 w=>
 DoX prog (mExt t20 1) w (S_body_Read_p0 d1 t6 t7 t8 K) fun t22 w=>
 DoX prog (mFA 27 t6 0) w (S_body_Read_p0 d1 t6 t7 t8 K) fun t23 w=>
 DoX prog (mStore 3 t23 t21) w (S_body_Read_p0 d1 t6 t7 t8 K) fun _ w=>
 DoX prog (mFA 27 t6 1) w (S_body_Read_p0 d1 t6 t7 t8 K) fun t24 w=>
 DoX prog (mStore 3 t24 t22) w (S_body_Read_p0 d1 t6 t7 t8 K) fun _ w=>
 CallX prog 28 #[t14] w (S_body_Read_p0 d1 t6 t7 t8 K) fun t26 w=>
 DoX prog (mFA 27 t6 2) w (S_body_Read_p0 d1 t6 t7 t8 K) fun t27 w=>
 DoX prog (mStore 25 t27 t26) w (S_body_Read_p0 d1 t6 t7 t8 K) fun _ w=>
 DoX prog (mFA 27 t6 2) w (S_body_Read_p0 d1 t6 t7 t8 K) fun t28 w=>
 DoX prog (mFA 25 t28 0) w (S_body_Read_p0 d1 t6 t7 t8 K) fun t29 w=>
 DoX prog (mLoad 3 t29) w (S_body_Read_p0 d1 t6 t7 t8 K) fun t30 w=>
 DoX prog (mEq .neq 3 (.tmp 30) (.const (.int .i64 8)) t30 (.int .i64 8)) w (S_body_Read_p0 d1 t6 t7 t8 K) fun t31 w=>
 CallX prog 26 #[t31,(.int .i64 10)] w (S_body_Read_p0 d1 t6 t7 t8 K) fun t32 w=>
 JoinX (fun J2=>
 CallX prog 29 #[t14] w (S_body_Read_p0 d1 t6 t7 t8 K) fun t34 w=>
 DoX prog (mAlloc 58) w (S_body_Read_p0 d1 t6 t7 t8 K) fun t10 w=>
 DoX prog (mStore 58 t10 t34) w (S_body_Read_p0 d1 t6 t7 t8 K) fun _ w=>
 DoX prog (mFA 58 t10 0) w (S_body_Read_p0 d1 t6 t7 t8 K) fun t37 w=>
 DoX prog (mLoad 3 t37) w (S_body_Read_p0 d1 t6 t7 t8 K) fun t38 w=>
 DoX prog (mEq .eql 3 (.tmp 38) (.const (.int .i64 5)) t38 (.int .i64 5)) w (S_body_Read_p0 d1 t6 t7 t8 K) fun t39 w=>
 GDo t39 true (fun E=>DoX prog (mFA 58 t10 4) w (S_body_Read_p0 d1 t6 t7 t8 K) E) w fun t41 w=>
 GDo t39 true (fun E=>DoX prog (mLoad 9 t41) w (S_body_Read_p0 d1 t6 t7 t8 K) E) w fun t42 w=>
 GDo t39 true (fun E=>DoX prog (mEq .eql 9 (.tmp 42) (.const (.string ⟨#[101,110,100,111,98,106]⟩)) t42 (.string ⟨#[101,110,100,111,98,106]⟩)) w (S_body_Read_p0 d1 t6 t7 t8 K) E) w fun t43 w=>
 DoX prog (mPick t39 t43 (.bool false)) w (S_body_Read_p0 d1 t6 t7 t8 K) fun t44 w=>
 IfX t44 (AtX [d1] [d1] (J2 [] w)) (DoX prog (mFA 58 t10 0) w (S_body_Read_p0 d1 t6 t7 t8 K) fun t46 w=>
 DoX prog (mLoad 3 t46) w (S_body_Read_p0 d1 t6 t7 t8 K) fun t47 w=>
 DoX prog (mEq .eql 3 (.tmp 47) (.const (.int .i64 5)) t47 (.int .i64 5)) w (S_body_Read_p0 d1 t6 t7 t8 K) fun t48 w=>
 GDo t48 true (fun E=>DoX prog (mFA 58 t10 4) w (S_body_Read_p0 d1 t6 t7 t8 K) E) w fun t50 w=>
 GDo t48 true (fun E=>DoX prog (mLoad 9 t50) w (S_body_Read_p0 d1 t6 t7 t8 K) E) w fun t51 w=>
 GDo t48 true (fun E=>DoX prog (mEq .eql 9 (.tmp 51) (.const (.string ⟨#[115,116,114,101,97,109]⟩)) t51 (.string ⟨#[115,116,114,101,97,109]⟩)) w (S_body_Read_p0 d1 t6 t7 t8 K) E) w fun t52 w=>
 DoX prog (mPick t48 t52 (.bool false)) w (S_body_Read_p0 d1 t6 t7 t8 K) fun t53 w=>
 GDo t53 true (fun E=>DoX prog (mFA 27 t6 2) w (S_body_Read_p0 d1 t6 t7 t8 K) E) w fun t55 w=>
 GDo t53 true (fun E=>DoX prog (mFA 25 t55 0) w (S_body_Read_p0 d1 t6 t7 t8 K) E) w fun t56 w=>
 GDo t53 true (fun E=>DoX prog (mLoad 3 t56) w (S_body_Read_p0 d1 t6 t7 t8 K) E) w fun t57 w=>
 GDo t53 true (fun E=>DoX prog (mEq .eql 3 (.tmp 57) (.const (.int .i64 7)) t57 (.int .i64 7)) w (S_body_Read_p0 d1 t6 t7 t8 K) E) w fun t58 w=>
 DoX prog (mPick t53 t58 (.bool false)) w (S_body_Read_p0 d1 t6 t7 t8 K) fun t59 w=>
 IfX t59 (DoX prog (mFA 27 t6 2) w (S_body_Read_p0 d1 t6 t7 t8 K) fun t61 w=>
 DoX prog (mLoad 25 t61) w (S_body_Read_p0 d1 t6 t7 t8 K) fun t62 w=>
 CallX prog 30 #[t14,t62,t2] w (S_body_Read_p0 d1 t6 t7 t8 K) fun t64 w=>
 DoX prog (mFA 27 t6 2) w (S_body_Read_p0 d1 t6 t7 t8 K) fun t65 w=>
 DoX prog (mStore 25 t65 t64) w (S_body_Read_p0 d1 t6 t7 t8 K) fun _ w=>
 AtX [d1] [d1] (J2 [] w)) (CallX prog 26 #[(.bool false),(.int .i64 3)] w (S_body_Read_p0 d1 t6 t7 t8 K) fun t35 w=>
 AtX [d1] [d1] (J2 [] w)))) (fun vs2 w=>∀_:Sg,S_body_Read_0 t6 t7 t8 t14 d1 w K))
theorem S_body_Read_eq (t0 t1 t2:Value)(w:World)(K:Ending→World→Prop):wpX prog 71 [(12,[])] [] none (bodyOf Tryz.f9) (topQ prog [.cell 6 27,.cell 7 3,.cell 8 30] K) (startX [t0,t1,t2]) [] w=S_body_Read t0 t1 t2 w K:=by kernel_rfl
theorem S_body_Read_ok {t0 t1 t2:Value}{w:World}{K:Ending→World→Prop}(h:S_body_Read t0 t1 t2 w K):Calls prog 9 #[t0,t1,t2] w K:=
 calls_of_wpX Tryz.func9 rfl rfl rfl rfl (Eq.mpr (S_body_Read_eq t0 t1 t2 w K) h)
def S_body_Length_p0 (x0:Deferred)(x1:Value)(x2:Value)(K:Ending→World→Prop):=pd prog [.cell x1 25,.cell x2 30] K [x0]
def S_body_Length (t0 t1:Value)(w:World)(K:Ending→World→Prop):Prop:=
 DoX prog (mAlloc 25) w (pk K) fun t4 w=>
 DoX prog (mAlloc 30) w (pk K) fun t5 w=>
 DoX prog (mFunc (.func 34) #[] #[t5,t4]) w (pk K) fun t12 w=>
 DfrX (dfrV t12 #[]) (fun d1=>
 CallX prog 25 #[t0,t1] w (S_body_Length_p0 d1 t4 t5 K) fun t15 w=>
 CallX prog 27 #[t15] w (S_body_Length_p0 d1 t4 t5 K) fun t17 w=>
 CallX prog 28 #[t15] w (S_body_Length_p0 d1 t4 t5 K) fun t19 w=>
 DoX prog (mAlloc 25) w (S_body_Length_p0 d1 t4 t5 K) fun t7 w=>
 DoX prog (mStore 25 t7 t19) w (S_body_Length_p0 d1 t4 t5 K) fun _ w=>
 DoX prog (mNil t15) w (S_body_Length_p0 d1 t4 t5 K) fun t23 w=>
 DoX prog (mFA 62 t23 1) w (S_body_Length_p0 d1 t4 t5 K) fun t24 w=>
 DoX prog (mLoad 3 t24) w (S_body_Length_p0 d1 t4 t5 K) fun t25 w=>
 CallX prog 35 #[t0,t25] w (S_body_Length_p0 d1 t4 t5 K) fun t26 w=>
 DoX prog (mExt t26 0) w (S_body_Length_p0 d1 t4 t5 K) fun t27 w=>
 DoX prog (mExt t26 1) w (S_body_Length_p0 d1 t4 t5 K) fun t28 w=>
 DoX prog (mAlloc 58) w (S_body_Length_p0 d1 t4 t5 K) fun t8 w=>
 DoX prog (mStore 58 t8 t27) w (S_body_Length_p0 d1 t4 t5 K) fun _ w=>
 DoX prog (mEq .neq 30 (.tmp 29) (.const (.int .i64 0)) t28 (.int .i64 0)) w (S_body_Length_p0 d1 t4 t5 K) fun t30 w=>
 GDo t30 false (fun E=>DoX prog (mFA 58 t8 0) w (S_body_Length_p0 d1 t4 t5 K) E) w fun t32 w=>
 GDo t30 false (fun E=>DoX prog (mLoad 3 t32) w (S_body_Length_p0 d1 t4 t5 K) E) w fun t33 w=>
 GDo t30 false (fun E=>DoX prog (mEq .neq 3 (.tmp 33) (.const (.int .i64 5)) t33 (.int .i64 5)) w (S_body_Length_p0 d1 t4 t5 K) E) w fun t34 w=>
 DoX prog (mPick t30 (.bool true) t34) w (S_body_Length_p0 d1 t4 t5 K) fun t35 w=>
 GDo t35 false (fun E=>DoX prog (mFA 58 t8 4) w (S_body_Length_p0 d1 t4 t5 K) E) w fun t37 w=>
 GDo t35 false (fun E=>DoX prog (mLoad 9 t37) w (S_body_Length_p0 d1 t4 t5 K) E) w fun t38 w=>
 GDo t35 false (fun E=>DoX prog (mEq .neq 9 (.tmp 38) (.const (.string ⟨#[115,116,114,101,97,109]⟩)) t38 (.string ⟨#[115,116,114,101,97,109]⟩)) w (S_body_Length_p0 d1 t4 t5 K) E) w fun t39 w=>
 DoX prog (mPick t35 (.bool true) t39) w (S_body_Length_p0 d1 t4 t5 K) fun t40 w=>
 GDo t40 false (fun E=>DoX prog (mFA 25 t7 0) w (S_body_Length_p0 d1 t4 t5 K) E) w fun t42 w=>
 GDo t40 false (fun E=>DoX prog (mLoad 3 t42) w (S_body_Length_p0 d1 t4 t5 K) E) w fun t43 w=>
 GDo t40 false (fun E=>DoX prog (mEq .neq 3 (.tmp 43) (.const (.int .i64 7)) t43 (.int .i64 7)) w (S_body_Length_p0 d1 t4 t5 K) E) w fun t44 w=>
 DoX prog (mPick t40 (.bool true) t44) w (S_body_Length_p0 d1 t4 t5 K) fun t45 w=>
 IfX t45 (CallX prog 36 #[] w (S_body_Length_p0 d1 t4 t5 K) fun t46 w=>
 DoX prog (mStore 25 t4 t46) w (S_body_Length_p0 d1 t4 t5 K) fun _ w=>
 DoX prog (mStore 30 t5 (.int .i64 0)) w (S_body_Length_p0 d1 t4 t5 K) fun _ w=>
 Leave prog [.cell t4 25,.cell t5 30] K [d1] .returning w) (DoX prog (mLoad 25 t7) w (S_body_Length_p0 d1 t4 t5 K) fun t48 w=>
 CallX prog 37 #[t48,(.string ⟨#[76,101,110,103,116,104]⟩)] w (S_body_Length_p0 d1 t4 t5 K) fun t49 w=>
 DoX prog (mExt t49 0) w (S_body_Length_p0 d1 t4 t5 K) fun t50 w=>
 DoX prog (mExt t49 1) w (S_body_Length_p0 d1 t4 t5 K) fun t51 w=>
 DoX prog (mAlloc 25) w (S_body_Length_p0 d1 t4 t5 K) fun t10 w=>
 DoX prog (mStore 25 t10 t50) w (S_body_Length_p0 d1 t4 t5 K) fun _ w=>
 DoX prog (mLoad 25 t10) w (S_body_Length_p0 d1 t4 t5 K) fun t52 w=>
 DoX prog (mStore 25 t4 t52) w (S_body_Length_p0 d1 t4 t5 K) fun _ w=>
 DoX prog (mStore 30 t5 (.int .i64 0)) w (S_body_Length_p0 d1 t4 t5 K) fun _ w=>
 Leave prog [.cell t4 25,.cell t5 30] K [d1] .returning w))
theorem S_body_Length_eq (t0 t1:Value)(w:World)(K:Ending→World→Prop):wpX prog 53 [] [] none (bodyOf Tryz.f11) (topQ prog [.cell 4 25,.cell 5 30] K) (startX [t0,t1]) [] w=S_body_Length t0 t1 w K:=by kernel_rfl
theorem S_body_Length_ok {t0 t1:Value}{w:World}{K:Ending→World→Prop}(h:S_body_Length t0 t1 w K):Calls prog 11 #[t0,t1] w K:=
 calls_of_wpX Tryz.func11 rfl rfl rfl rfl (Eq.mpr (S_body_Length_eq t0 t1 w K) h)
def S_body_Text_p0 (x0:Deferred)(x1:Value)(x2:Value)(K:Ending→World→Prop):=pd prog [.cell x1 9,.cell x2 30] K [x0]
def S_body_Text_1 (t2 t3 t4:Value)(d1:Deferred)(w:World)(K:Ending→World→Prop):Prop:=
 CallX prog 43 #[t4,(.string ⟨#[101,110,100,111,98,106,10]⟩)] w (S_body_Text_p0 d1 t2 t3 K) fun t62 w=>
 CallX prog 51 #[t4] w (S_body_Text_p0 d1 t2 t3 K) fun t63 w=>
 DoX prog (mStore 9 t2 t63) w (S_body_Text_p0 d1 t2 t3 K) fun _ w=>
 DoX prog (mStore 30 t3 (.int .i64 0)) w (S_body_Text_p0 d1 t2 t3 K) fun _ w=>
 Leave prog [.cell t2 9,.cell t3 30] K [d1] .returning w
def S_body_Text_0 (t1 t2 t3 t4 t5:Value)(d1:Deferred)(w:World)(K:Ending→World→Prop):Prop:=
 DoX prog (mLoad 25 t5) w (S_body_Text_p0 d1 t2 t3 K) fun t45 w=>
 CallX prog 50 #[t45] w (S_body_Text_p0 d1 t2 t3 K) fun t46 w=>
 DoX prog (mExt t46 0) w (S_body_Text_p0 d1 t2 t3 K) fun t47 w=>
 DoX prog (mExt t46 1) w (S_body_Text_p0 d1 t2 t3 K) fun t48 w=>
 CallX prog 45 #[t47,t48] w (S_body_Text_p0 d1 t2 t3 K) fun t49 w=>
 DoX prog (mBin .add 9 t49 (.string ⟨#[10]⟩)) w (S_body_Text_p0 d1 t2 t3 K) fun t50 w=>
 CallX prog 43 #[t4,t50] w (S_body_Text_p0 d1 t2 t3 K) fun t51 w=>
 JoinX (fun J6=>
 DoX prog (mFA 27 t1 2) w (S_body_Text_p0 d1 t2 t3 K) fun t52 w=>
 DoX prog (mFA 25 t52 0) w (S_body_Text_p0 d1 t2 t3 K) fun t53 w=>
 DoX prog (mLoad 3 t53) w (S_body_Text_p0 d1 t2 t3 K) fun t54 w=>
 DoX prog (mEq .eql 3 (.tmp 54) (.const (.int .i64 9)) t54 (.int .i64 9)) w (S_body_Text_p0 d1 t2 t3 K) fun t55 w=>
 IfX t55 (DoX prog (mFA 27 t1 2) w (S_body_Text_p0 d1 t2 t3 K) fun t56 w=>
 DoX prog (mFA 25 t56 3) w (S_body_Text_p0 d1 t2 t3 K) fun t57 w=>
 DoX prog (mLoad 9 t57) w (S_body_Text_p0 d1 t2 t3 K) fun t58 w=>
 DoX prog (mBin .add 9 (.string ⟨#[115,116,114,101,97,109,10]⟩) t58) w (S_body_Text_p0 d1 t2 t3 K) fun t59 w=>
 DoX prog (mBin .add 9 t59 (.string ⟨#[10,101,110,100,115,116,114,101,97,109,10]⟩)) w (S_body_Text_p0 d1 t2 t3 K) fun t60 w=>
 CallX prog 43 #[t4,t60] w (S_body_Text_p0 d1 t2 t3 K) fun t61 w=>
 AtX [d1] [d1] (J6 [] w)) (AtX [d1] [d1] (J6 [] w))) (fun vs6 w=>∀_:Sg,S_body_Text_1 t2 t3 t4 d1 w K)
def S_body_Text (t0:Value)(w:World)(K:Ending→World→Prop):Prop:=
 DoX prog (mBox 27 t0) w (pk K) fun t1 w=>
 DoX prog (mAlloc 9) w (pk K) fun t2 w=>
 DoX prog (mAlloc 30) w (pk K) fun t3 w=>
 DoX prog (mFunc (.func 41) #[] #[t3,t2]) w (pk K) fun t6 w=>
 DfrX (dfrV t6 #[]) (fun d1=>
 QuietX w (fun C2=>
 QDo prog C2 (mLoad 27 t1) fun t7=>
 QDo prog C2 (mLoad 27 t1) fun t8=>
 QCall prog C2 18 #[t8] fun t9=>
 ∀w,C2 w →
 CallX prog 42 #[t7,t9] w (S_body_Text_p0 d1 t2 t3 K) fun t10 w=>
 DoX prog (mAlloc 78) w (S_body_Text_p0 d1 t2 t3 K) fun t4 w=>
 HeldX w (fun S3 w=>
 HDo prog S3 (mFA 27 t1 0) fun t11=>
 HDo prog S3 (mLoad 3 t11) fun t12=>
 HDo prog S3 (mFA 27 t1 1) fun t17=>
 HDo prog S3 (mLoad 3 t17) fun t18=>
 CallX prog 46 #[t12] w (pm1 (pm1 (pm1 (pm1 (pm1 (pm1 (pm1 (pm1 (pm1 (S_body_Text_p0 d1 t2 t3 K)))))))))) fun t13 w=>
 S3 w∧(HDo prog S3 (mExt t13 0) fun t14=>
 HDo prog S3 (mExt t13 1) fun t15=>
 CallX prog 45 #[t14,t15] w (pm1 (pm1 (pm1 (pm1 (pm1 (pm1 (pm1 (pm1 (pm1 (S_body_Text_p0 d1 t2 t3 K)))))))))) fun t16 w=>
 S3 w∧(CallX prog 46 #[t18] w (pm1 (pm1 (pm1 (pm1 (pm1 (pm1 (pm1 (pm1 (pm1 (S_body_Text_p0 d1 t2 t3 K)))))))))) fun t19 w=>
 S3 w∧(HDo prog S3 (mExt t19 0) fun t20=>
 HDo prog S3 (mExt t19 1) fun t21=>
 CallX prog 45 #[t20,t21] w (pm1 (pm1 (pm1 (pm1 (pm1 (pm1 (pm1 (pm1 (pm1 (S_body_Text_p0 d1 t2 t3 K)))))))))) fun t22 w=>
 S3 w∧(DoX prog (mBuildS 22 3 #[(0,t16),(1,t22),(2,(.string ⟨#[111,98,106]⟩))]) w (pm1 (pm1 (pm1 (pm1 (pm1 (pm1 (pm1 (pm1 (pm1 (S_body_Text_p0 d1 t2 t3 K)))))))))) fun t23 w=>
 S3 w∧(CallX prog 44 #[t23] w (pm1 (pm1 (pm1 (pm1 (pm1 (pm1 (pm1 (pm1 (pm1 (S_body_Text_p0 d1 t2 t3 K)))))))))) fun t24 w=>
 S3 w∧(HDo prog S3 (mBin .add 9 t24 (.string ⟨#[10]⟩)) fun t25=>
 CallX prog 43 #[t4,t25] w (pm1 (pm1 (pm1 (pm1 (pm1 (pm1 (pm1 (pm1 (pm1 (S_body_Text_p0 d1 t2 t3 K)))))))))) fun t26 w=>
 S3 w∧(DoX prog (mFA 27 t1 2) w (S_body_Text_p0 d1 t2 t3 K) fun t27 w=>
 DoX prog (mLoad 25 t27) w (S_body_Text_p0 d1 t2 t3 K) fun t28 w=>
 DoX prog (mAlloc 25) w (S_body_Text_p0 d1 t2 t3 K) fun t5 w=>
 DoX prog (mStore 25 t5 t28) w (S_body_Text_p0 d1 t2 t3 K) fun _ w=>
 JoinX (fun J4=>
 DoX prog (mFA 25 t5 0) w (S_body_Text_p0 d1 t2 t3 K) fun t29 w=>
 DoX prog (mLoad 3 t29) w (S_body_Text_p0 d1 t2 t3 K) fun t30 w=>
 DoX prog (mEq .eql 3 (.tmp 30) (.const (.int .i64 9)) t30 (.int .i64 9)) w (S_body_Text_p0 d1 t2 t3 K) fun t31 w=>
 IfX t31 (HeldX w (fun S5 w=>
 HDo prog (fun _=>True) (mFA 25 t5 4) fun t32=>
 HDo prog S5 (mLoad 22 t32) fun t33=>
 HDo prog (fun _=>True) (mFA 25 t5 5) fun t34=>
 HDo prog S5 (mLoad 23 t34) fun t35=>
 HDo prog (fun _=>True) (mBuild 25 #[(0,(.int .i64 7)),(4,t33),(5,t35)]) fun t36=>
 HDo prog (fun _=>True) (mFA 25 t5 3) fun t37=>
 HDo prog S5 (mLoad 9 t37) fun t38=>
 HDo prog (fun _=>True) (mB .len #[9] 3 #[false] #[t38]) fun t39=>
 CallX prog 49 #[t39] w (pm1 (pm1 (pm1 (pm1 (pm1 (pm1 (pm1 (pm1 (pm1 (pm1 (S_body_Text_p0 d1 t2 t3 K))))))))))) fun t40 w=>
 S5 w∧(CallX prog 48 #[t36,(.string ⟨#[76,101,110,103,116,104]⟩),t40] w (pm1 (pm1 (pm1 (pm1 (pm1 (pm1 (pm1 (pm1 (pm1 (pm1 (S_body_Text_p0 d1 t2 t3 K))))))))))) fun t41 w=>
 S5 w∧(HDo prog (fun _=>True) (mExt t41 0) fun t42=>
 HDo prog (fun _=>True) (mExt t41 1) fun t43=>
 CallX prog 47 #[t42,t43] w (pm1 (pm1 (pm1 (pm1 (pm1 (pm1 (pm1 (pm1 (pm1 (pm1 (S_body_Text_p0 d1 t2 t3 K))))))))))) fun t44 w=>
 S5 w∧(DoX prog (mStore 25 t5 t44) w (pm1 (pm1 (pm1 (pm1 (pm1 (pm1 (pm1 (pm1 (pm1 (pm1 (S_body_Text_p0 d1 t2 t3 K))))))))))) fun _ w=>
 (AtX [d1] [d1] (J4 [] w))))))) (AtX [d1] [d1] (J4 [] w))) (fun vs4 w=>∀_:Sg,S_body_Text_0 t1 t2 t3 t4 t5 d1 w K)))))))))))
theorem S_body_Text_eq (t0:Value)(w:World)(K:Ending→World→Prop):wpX prog 64 [(8,[]),(11,[])] [] none (bodyOf Tryz.f15) (topQ prog [.cell 2 9,.cell 3 30] K) (startX [t0]) [] w=S_body_Text t0 w K:=by kernel_rfl
theorem S_body_Text_ok {t0:Value}{w:World}{K:Ending→World→Prop}(h:S_body_Text t0 w K):Calls prog 15 #[t0] w K:=
 calls_of_wpX Tryz.func15 rfl rfl rfl rfl (Eq.mpr (S_body_Text_eq t0 w K) h)
end
namespace Eng
theorem callsD_recover2 {P:Program}{f:FuncId}{fn:Func}{id:Nat}{o o2:Oper}{rest:Code}{args:List Value}{u:FrameMode}{w:World}{R:Ending→FrameMode→World→Prop}{n d d2:Nat}{aj al:List (Nat×List Nat)}{rs:List ResultVar}{g:Nat}{ys:Array Operand}{ts:Array TypeId}
  (hf:P.funcs[f]?=some fn) (hb:fn.body=some (.seq (.region id #[o,o2] false) rest)) (ho:o.op=.call { callee:=.builtin .recover,args:=#[],argTypes:=#[] }) (hg:o.guard=none) (hd:o.dst=some d) (hdn:Nat.blt d n=true)
  (ho2:o2.op=.call { callee:=.value (.func g),args:=ys,argTypes:=ts }) (hg2:o2.guard=none) (hd2:o2.dst=some d2) (hdn2:Nat.blt d2 n=true)
  (hn:fn.ntmps=n) (hrs:fn.results.toList=rs) (hl:Nat.ble args.length n=true) (hrest:sndOf (bodyOf fn)=rest) (hp:plainB P g=true)
  {K':VWP} (h:CallX P g (amap (rd (upd (startX args) d (recV u))) ys) w (fun c w'=>R (.panicked c) (recM u) w') K')
  (hK:∀v w',K' v w'→wpX P n aj al none (sndOf (bodyOf fn)) (topD P rs (fun e w'=>R e (recM u) w')) (upd (upd (startX args) d (recV u)) d2 v) [] w'):CallsD P f args.toArray u w R:=by
 rw[hrest] at hK;refine callsD_of_wpS hf hb fun c₀ cs hu=>?_;rw[hn];refine wpS_seq (wpS_region ?_);have hex:∀ρ:Operand→Value,(execOp ρ o).run P w=.ok .recover w:=by
  intro ρ;unfold execOp;rw[ho];simp[resolve,invoke,builtin,bind,pure,Sem.bind,Sem.run]
 have hrep:=start_rep (args:=args) hl;have hput:Rep n (upd (startX args) d (recV u)) (({ tmps:=args.toArray++Array.replicate (n - args.toArray.size) undef,defers:=[] }:Act).put o.dst (recV u)).tmps:=by
  rw[hd];exact Rep.put (a:={ tmps:=args.toArray++Array.replicate (n - args.toArray.size) undef,defers:=[] }) hrep (d:=some d) hdn (recV u)
 have hdef:(({ tmps:=args.toArray++Array.replicate (n - args.toArray.size) undef,defers:=[] }:Act).put o.dst (recV u)).defers=[]:=by rw[hd];rfl
 obtain⟨A1,hA1⟩:∃A,A=({ tmps:=args.toArray++Array.replicate (n - args.toArray.size) undef,defers:=[] }:Act).put o.dst (recV u):=⟨_,rfl⟩;rw[←hA1] at hput hdef;have hex2:(execOp A1.eval o2).run P w=.ok (.enter g (amap (rd (upd (startX args) d (recV u))) ys)) w:=by
  rw[Rep.eval hput];unfold execOp;rw[ho2,amap_eq];simp only[resolve,rd,Deferred.ofValue,invoke,bind,pure,Sem.bind];rw[Array.empty_append,Array.append_empty];exact plain_run hp _ _
 have key:wpOpsS P #[o,o2] (Exit.thenS (rest.wpS P (bodyPostS P fn c₀ cs R)) (bodyPostS P fn c₀ cs R)) [1] A1 ({ c₀ with mode:=recM u }::cs) w:=by
  unfold wpOpsS;simp only[List.getElem?_toArray,List.getElem?_cons_succ,List.getElem?_cons_zero];rw[if_pos (by simp[Region.wanted,hg2]),hex2];simp only[Oper.upon];refine Calls.mono h.out ?_;rintro e w'' hk;cases e with
 |outgrown=>exact hk.elim
 |panicked c=>exact⟨hdef,recM u,rfl,hk⟩
 |returned v=>
   have hk:wpX P n aj al none rest (topD P rs (fun e w'=>R e (recM u) w')) (upd (upd (startX args) d (recV u)) d2 v) [] w'':=hK v w'' hk;have hput2:Rep n (upd (upd (startX args) d (recV u)) d2 v) (A1.put o2.dst v).tmps:=by
    rw[hd2];exact Rep.put hput (d:=some d2) hdn2 v
   have hdef2:(A1.put o2.dst v).defers=[]:=by rw[hd2];exact hdef
   refine wpS_of_wp (Code.wp_mono ?_ (wpIn_wide.1 (wpX_sound rest none _ _ _ w'' hput2 (by rw[hdef2];exact hk))));rintro e a w' ⟨σ,hr,hk⟩;have hdd:∀K:Ending→World→Prop,RetD P (rvOf σ rs) w' K→∃v,(results fn a.tmps).run P w'=.ok v w'∧K (.returned v) w':=fun K hk=>by
    rw[results_eq hr,hrs];exact retX_iff hk
   generalize hds:a.defers=ds at hk;cases e<;>cases ds<;>first|(exact hk.elim;done)|skip
   ·obtain⟨v,h1,h2⟩:=hdd (fun e w'=>R e (recM u) w') hk;exact⟨hds,recM u,rfl,v,h1,h2⟩
   ·obtain⟨v,h1,h2⟩:=hdd (fun e w'=>R e (recM u) w') hk;exact⟨hds,recM u,rfl,v,h1,h2⟩
   ·exact⟨hds,recM u,rfl,hk⟩
 have e:=rec_eq c₀ cs;rw[hu] at e;show wpOpsS P #[o,o2] _ [0,1] _ (c₀::cs) w;unfold wpOpsS;simp only[List.getElem?_toArray,List.getElem?_cons_zero];rw[if_pos (by simp[Region.wanted,hg])];rw[hex];cases hrc:recoverD (c₀::cs) with
|none=>
  rw[hrc] at e;simp only[Prod.mk.injEq] at e;simp only;rw[e.1,e.2,←hA1];exact key
|some x=>
  obtain⟨v,cs'⟩:=x;rw[hrc] at e;simp only[Prod.mk.injEq] at e;simp only;rw[e.1,e.2,←hA1];exact key
end Eng
section
open Eng
def S_body_Head_1_r (t0 t1 t2 t3 r v:Value)(w:World)(K:Ending→World→Prop):Prop:=
 DoX prog (mLoad 30 t0) w (pk K) fun t6 w=>
 DoX prog (mEq .neq 30 (.tmp 6) (.const (.int .i64 0)) t6 (.int .i64 0)) w (pk K) fun t7 w=>
 IfX t7 (DoX prog (mStore 3 t1 (.int .i64 0)) w (pk K) fun _ w=>
 DoX prog (mStore 3 t2 (.int .i64 0)) w (pk K) fun _ w=>
 DoX prog (mStore 3 t3 (.int .i64 0)) w (pk K) fun _ w=>
 K (.returned (.tuple #[])) w) (K (.returned (.tuple #[])) w)
def S_body_Head_1 (t0 t1 t2 t3 r:Value)(w:World)(K:Ending→World→Prop):Prop:=CallX prog 24 #[r,t0] w (pk K) fun v w=>S_body_Head_1_r t0 t1 t2 t3 r v w K
theorem S_body_Head_1_eq (t0 t1 t2 t3 r v:Value)(w:World)(K:Ending→World→Prop):wpX prog 8 [] [] none (sndOf (bodyOf Tryz.f39)) (topD prog [] K) (upd (upd (startX [t0,t1,t2,t3]) 4 r) 5 v) [] w=S_body_Head_1_r t0 t1 t2 t3 r v w K:=by kernel_rfl
theorem S_body_Head_1_dok {t0 t1 t2 t3:Value}{u:FrameMode}{w:World}{R:Ending→FrameMode→World→Prop}(h:S_body_Head_1 t0 t1 t2 t3 (recV u) w (fun e w=>R e (recM u) w)):CallsD prog 39 #[t0,t1,t2,t3] u w R:=
 callsD_recover2 Tryz.func39 rfl rfl rfl rfl rfl rfl rfl rfl rfl rfl rfl rfl rfl (by kernel_rfl) h fun v w hh=>Eq.mpr (S_body_Head_1_eq t0 t1 t2 t3 (recV u) v w _) hh
def S_body_Read_1_r (t0 t1 t2 r v:Value)(w:World)(K:Ending→World→Prop):Prop:=
 DoX prog (mLoad 30 t0) w (pk K) fun t5 w=>
 DoX prog (mEq .neq 30 (.tmp 5) (.const (.int .i64 0)) t5 (.int .i64 0)) w (pk K) fun t6 w=>
 IfX t6 (DoX prog (mBuild 27 #[]) w (pk K) fun t7 w=>
 DoX prog (mStore 27 t1 t7) w (pk K) fun _ w=>
 DoX prog (mStore 3 t2 (.int .i64 0)) w (pk K) fun _ w=>
 K (.returned (.tuple #[])) w) (K (.returned (.tuple #[])) w)
def S_body_Read_1 (t0 t1 t2 r:Value)(w:World)(K:Ending→World→Prop):Prop:=CallX prog 24 #[r,t0] w (pk K) fun v w=>S_body_Read_1_r t0 t1 t2 r v w K
theorem S_body_Read_1_eq (t0 t1 t2 r v:Value)(w:World)(K:Ending→World→Prop):wpX prog 8 [] [] none (sndOf (bodyOf Tryz.f23)) (topD prog [] K) (upd (upd (startX [t0,t1,t2]) 3 r) 4 v) [] w=S_body_Read_1_r t0 t1 t2 r v w K:=by kernel_rfl
theorem S_body_Read_1_dok {t0 t1 t2:Value}{u:FrameMode}{w:World}{R:Ending→FrameMode→World→Prop}(h:S_body_Read_1 t0 t1 t2 (recV u) w (fun e w=>R e (recM u) w)):CallsD prog 23 #[t0,t1,t2] u w R:=
 callsD_recover2 Tryz.func23 rfl rfl rfl rfl rfl rfl rfl rfl rfl rfl rfl rfl rfl (by kernel_rfl) h fun v w hh=>Eq.mpr (S_body_Read_1_eq t0 t1 t2 (recV u) v w _) hh
def S_body_Length_1_r (t0 t1 r v:Value)(w:World)(K:Ending→World→Prop):Prop:=
 DoX prog (mLoad 30 t0) w (pk K) fun t4 w=>
 DoX prog (mEq .neq 30 (.tmp 4) (.const (.int .i64 0)) t4 (.int .i64 0)) w (pk K) fun t5 w=>
 IfX t5 (DoX prog (mBuild 25 #[]) w (pk K) fun t6 w=>
 DoX prog (mStore 25 t1 t6) w (pk K) fun _ w=>
 K (.returned (.tuple #[])) w) (K (.returned (.tuple #[])) w)
def S_body_Length_1 (t0 t1 r:Value)(w:World)(K:Ending→World→Prop):Prop:=CallX prog 24 #[r,t0] w (pk K) fun v w=>S_body_Length_1_r t0 t1 r v w K
theorem S_body_Length_1_eq (t0 t1 r v:Value)(w:World)(K:Ending→World→Prop):wpX prog 7 [] [] none (sndOf (bodyOf Tryz.f34)) (topD prog [] K) (upd (upd (startX [t0,t1]) 2 r) 3 v) [] w=S_body_Length_1_r t0 t1 r v w K:=by kernel_rfl
theorem S_body_Length_1_dok {t0 t1:Value}{u:FrameMode}{w:World}{R:Ending→FrameMode→World→Prop}(h:S_body_Length_1 t0 t1 (recV u) w (fun e w=>R e (recM u) w)):CallsD prog 34 #[t0,t1] u w R:=
 callsD_recover2 Tryz.func34 rfl rfl rfl rfl rfl rfl rfl rfl rfl rfl rfl rfl rfl (by kernel_rfl) h fun v w hh=>Eq.mpr (S_body_Length_1_eq t0 t1 (recV u) v w _) hh
def S_body_Text_fn1_r (t0 t1 r v:Value)(w:World)(K:Ending→World→Prop):Prop:=
 DoX prog (mLoad 30 t0) w (pk K) fun t4 w=>
 DoX prog (mEq .neq 30 (.tmp 4) (.const (.int .i64 0)) t4 (.int .i64 0)) w (pk K) fun t5 w=>
 IfX t5 (DoX prog (mStore 9 t1 (.string ⟨#[]⟩)) w (pk K) fun _ w=>
 K (.returned (.tuple #[])) w) (K (.returned (.tuple #[])) w)
def S_body_Text_fn1 (t0 t1 r:Value)(w:World)(K:Ending→World→Prop):Prop:=CallX prog 24 #[r,t0] w (pk K) fun v w=>S_body_Text_fn1_r t0 t1 r v w K
theorem S_body_Text_fn1_eq (t0 t1 r v:Value)(w:World)(K:Ending→World→Prop):wpX prog 6 [] [] none (sndOf (bodyOf Tryz.f41)) (topD prog [] K) (upd (upd (startX [t0,t1]) 2 r) 3 v) [] w=S_body_Text_fn1_r t0 t1 r v w K:=by kernel_rfl
theorem S_body_Text_fn1_dok {t0 t1:Value}{u:FrameMode}{w:World}{R:Ending→FrameMode→World→Prop}(h:S_body_Text_fn1 t0 t1 (recV u) w (fun e w=>R e (recM u) w)):CallsD prog 41 #[t0,t1] u w R:=
 callsD_recover2 Tryz.func41 rfl rfl rfl rfl rfl rfl rfl rfl rfl rfl rfl rfl rfl (by kernel_rfl) h fun v w hh=>Eq.mpr (S_body_Text_fn1_eq t0 t1 (recV u) v w _) hh
end
section
open Eng Go.RowKit
abbrev brE (b:Nat)(s:List UInt8)(a:Int):Ent:=.cells b (rdC s a) 62
theorem fbr0:fOff prog 62 0=some 0:=by kernel_rfl
theorem fbr1:fOff prog 62 1=some 1:=by kernel_rfl
theorem nfG:notIface prog 96=true:=by kernel_rfl
def upE (e:Int):PanicEntry:={ v:=.iface 96 (.agg #[.int .i64 e]),recovered:=false }
section
variable {w:World}{PK:PKT}{K:VWP}{S:Nat→Prop}{w0:World}{L:List Ent}
theorem fa_br1 {b:Nat}:DoX prog (mFA 62 (.pointer (some ⟨b,0,none⟩)) 1) w PK K=K (.pointer (some ⟨b,1,none⟩)) w:=f_addr fbr1
theorem br_s {b:Nat}{s:List UInt8}{a:Int}(h:(brE b s a).is w):(mLoad 9 (.pointer (some ⟨b,0,none⟩))).run prog w=.ok (.value (.string ⟨s.toArray⟩)) w:=run_load_cell nStr5 (cells_cell (T:=62) (cs:=rdC s a) (i:=0) h rfl)
theorem br_a {b:Nat}{s:List UInt8}{a:Int}(h:(brE b s a).is w):(mLoad 3 (.pointer (some ⟨b,1,none⟩))).run prog w=.ok (.value (.int .i64 a)) w:=run_load_cell nInt5 (cells_cell (T:=62) (cs:=rdC s a) (i:=1) h rfl)
theorem br_put (i:Nat){b:Nat}{s:List UInt8}{a a':Int}(ho:OwnS S w0 w L)(hi:L[i]?=some (brE b s a))(k:∀w',OwnS S w0 w' (L.set i (brE b s a'))→K undef w'):DoX prog (mStore 3 (.pointer (some ⟨b,1,none⟩)) (.int .i64 a')) w PK K:=
 o_store i ho hi (by kernel_rfl) rfl (show 1 < 2 by omega) k
end
theorem bneed_t (e:Int)(w:World):Ret prog 26 #[.bool true,.int .i64 e] w (fun v w'=>v=.tuple #[]∧w=w'):=by
 refine ret_of fun K hK=>S_body_need_ok ?_;unfold S_body_need;simp only[rs,Bool.not_true,i_f];exact hK _ _ ⟨rfl,rfl⟩
theorem bneed_f (e:Int)(w:World):Pan prog 26 #[.bool false,.int .i64 e] w (fun c w'=>c=[upE e]∧w=w'):=by
 refine pan_of fun K hK=>S_body_need_ok ?_;unfold S_body_need;simp only[rs,Bool.not_false,i_t];have hb:∀{PK:PKT} {K:VWP},DoX prog (mBuild 96 #[(0,.int .i64 e)]) w PK K=K (.agg #[.int .i64 e]) w:=do_eq (by kernel_rfl);rw[hb,m_iface nfG,m_panic];exact hK _ _ ⟨rfl,rfl⟩
section
variable {w:World}{PK:PKT}{K:VWP}{S:Nat→Prop}{w0:World}{L:List Ent}
theorem c_bneed {q:Bool}{e:Int}(kt:q=true→K (.tuple #[]) w)(kf:q=false→PK [upE e] w):CallX prog 26 #[.bool q,.int .i64 e] w PK K:=by
 cases q with
|true=>exact c_eq (bneed_t e w) (kt rfl)
|false=>exact c_pan (bneed_f e w) fun c w' ⟨hc,hw⟩=>by subst hc;subst hw;exact kf rfl
theorem c_bmustT {t:Lx.Tok}{e:Int}(ho:OwnS S w0 w L)(kr:e=0→∀w',OwnS S w0 w' L→K (tokV t) w')(kp:e≠0→∀w',OwnS S w0 w' L→PK [upE e] w'):CallX prog 62 #[tokV t,.int .i64 e] w PK K:=by
 refine⟨S_body_must_foliant_api_Token_ok ?_⟩;unfold S_body_must_foliant_api_Token;refine o_tkb t ho fun b w1 ho=>?_;refine o_tok ho fun b2 w2 ho=>?_;simp only[rs];refine c_bneed (fun h=>?_) fun h=>kp (of_decide_eq_false h) _ ho.tail.tail;rw[tk_v ho 1 rfl];refine tk_put 0 ho rfl fun w3 ho=>?_;exact ret_v1 (rv_cell (ho.agg 0 rfl aggTok)) (kr (of_decide_eq_true h) _ ho.tail.tail)
theorem c_bmustO {o:Ob}{vk vc:Value}{e:Int}(hk:vk.oneCell'=true)(hc:vc.oneCell'=true)(ho:OwnS S w0 w L)(kr:e=0→∀w',OwnS S w0 w' L→K (obV o vk vc) w')(kp:e≠0→∀w',OwnS S w0 w' L→PK [upE e] w'):CallX prog 47 #[obV o vk vc,.int .i64 e] w PK K:=by
 refine⟨S_body_must_foliant_api_Object_ok ?_⟩;unfold S_body_must_foliant_api_Object;refine o_obb o hk hc ho fun b w1 ho=>?_;refine o_oba ho fun b2 w2 ho=>?_;simp only[rs];refine c_bneed (fun h=>?_) fun h=>kp (of_decide_eq_false h) _ ho.tail.tail;rw[ob_v ho 1 rfl];refine ob_put 0 hk hc ho rfl fun w3 ho=>?_;exact ret_v1 (rv_cell (ho.agg 0 rfl aggOb)) (kr (of_decide_eq_true h) _ ho.tail.tail)
theorem c_bmustS {s:List UInt8}{e:Int}(kr:e=0→K (.string ⟨s.toArray⟩) w)(kp:e≠0→PK [upE e] w):CallX prog 45 #[.string ⟨s.toArray⟩,.int .i64 e] w PK K:=by
 refine⟨S_body_must_string_ok ?_⟩;unfold S_body_must_string;simp only[rs];exact c_bneed (fun h=>kr (of_decide_eq_true h)) fun h=>kp (of_decide_eq_false h)
theorem c_bfrom {s:List UInt8}{a:Int}(ho:OwnS S w0 w L)(kr:(0≤a∧a≤s.length)→∀b w',OwnS S w0 w' (brE b s a::L)→K (rdP b) w')(kp:¬(0≤a∧a≤s.length)→PK [upE 1] w):CallX prog 25 #[.string ⟨s.toArray⟩,.int .i64 a] w PK K:=by
 refine⟨S_body_from_ok ?_⟩;unfold S_body_from;have fin:∀q:Bool,(q=true↔(0≤a∧a≤s.length))→CallX prog 26 #[.bool q,.int .i64 1] w (pk (Cont K PK)) fun t13 w=>
   DoX prog (mBuild 62 #[(0,.string ⟨s.toArray⟩),(1,.int .i64 a)]) w (pk (Cont K PK)) fun t16 w=>DoX prog (mBox 62 t16) w (pk (Cont K PK)) fun t17 w=>Cont K PK (.returned t17) w:=by
  intro q hq;refine c_bneed (fun h=>?_) fun h=>kp fun h'=>by rw[hq.2 h'] at h;cases h
  have hb1:∀{PK:PKT} {K:VWP},DoX prog (mBuild 62 #[(0,.string ⟨s.toArray⟩),(1,.int .i64 a)]) w PK K=K (.agg (rdC s a).toArray) w:=do_eq (by kernel_rfl);rw[hb1];exact o_new (fun b=>.pointer (some ⟨b,0,none⟩)) (rdC s a) 62 (fun _=>by kernel_rfl) ho fun b w2 ho=>kr (hq.1 h) b w2 ho
 by_cases h0:a≥0
 ·simp only[rs,decide_eq_true h0,s_len Tryz.underlying9];exact fin _ (by simp[decide_eq_true_eq];omega)
 ·simp only[rs,decide_eq_false h0,g_un];exact fin _ (by simp;omega)
end
theorem bnext_ret (b:Nat)(s:List UInt8)(a:Int)(w:World)(hs:s.length≤1099511627776)(hr:(brE b s a).is w) :
  Lend prog 29 #[rdP b] (brE b s a) w (Has s a) (fun v e'=>v=tokV (Lx.next s a).1∧e'=brE b s (Lx.next s a).1.t) [upE (lacks s a)]:=by
 refine lend_of hr (fun K ho hret hpan=>S_body_reader_next_ok ?_);unfold S_body_reader_next;generalize hS0:(brE b s a).blk=S0 at *;refine o_tok ho fun b2 w1 ho=>?_;have two:∀{W:World} {b3:Nat},(Lx.next s a).2=0→OwnS S0 w W [tokE b3 (Lx.next s a).1,tokE b2 Lx.none_,brE b s a]→S_body_reader_next_0 (rdP b) (.pointer (some ⟨b2,0,none⟩)) (.pointer (some ⟨b3,0,none⟩)) W K:=by
  intro W b3 hz ho;unfold Has lacks at *;generalize Lx.next s a=x at *
  unfold S_body_reader_next_0;rw[fa_t0,tk_k ho 0 rfl];simp only[rs];refine c_bneed (fun h=>?_) fun h=>?_
  rotate_left
  ·have h0:x.1.k=0:=by simpa using h
   rw[if_neg (by simp[hz])] at hpan;exact hpan (fun h=>h.2 h0) _ W _ ho.tail.tail
  have h0:x.1.k≠0:=of_decide_eq_true h;rw[fa_t2,tk_t ho 0 rfl,fa_br1];refine br_put 2 ho rfl fun w2 ho=>?_;have ho:OwnS S0 w w2 [tokE b3 x.1,tokE b2 Lx.none_,brE b s x.1.t]:=ho;rw[tk_v ho 0 rfl];refine tk_put 1 ho rfl fun w3 ho=>?_;refine ret_v1 (rv_cell (ho.agg 1 rfl aggTok)) ?_;exact hret ⟨hz,h0⟩ _ _ w3 [] ho.tail.tail ⟨rfl,rfl⟩
 have bad:∀{W:World} {L:List Ent},(Lx.next s a).2≠0→OwnS S0 w W (L++([brE b s a]++[]))→pk K [upE (Lx.next s a).2] W:=by
  intro W L hz ho;have:=hpan (fun h=>hz h.1);unfold lacks at this;rw[if_pos hz] at this;exact this _ W _ ho.front
 have ho:=ho.drew;refine⟨fun W=>(brE b s a).is W,ho.at_ 1 rfl,?_⟩;refine hd_pure _ (fun _=>run_nil) (hd_pure _ (fun _=>run_fa fbr0) (hd_do _ (fun W h=>br_s h) ?_));refine hd_pure _ (fun _=>run_nil) (hd_pure _ (fun _=>run_fa fbr1) (hd_do _ (fun W h=>br_a h) ?_));refine⟨?_,?_⟩
 ·refine c_below ho (R:=fun v=>v=tokR (Lx.next s a)) (next_ret s a _ hs) ?_;rintro _ w2 rfl ho;refine hd_pure _ (fun _=>run_ext0) (hd_pure _ (fun _=>run_ext1) ?_);refine⟨?_,?_⟩
  ·refine c_bmustT ho (fun hz w3 ho=>⟨ho.at_ 1 rfl,?_⟩) fun hz w3 ho=>fun _ _ _ _ _ _ _ _ _ _=>bad (L:=[_]) hz ho;refine o_tok ho fun b3 w4 ho=>⟨ho.at_ 2 rfl,?_⟩;refine tk_put 0 ho rfl fun w5 ho=>?_;exact two hz ho
  ·refine o_tok ho fun b3 w4 ho=>⟨ho.at_ 2 rfl,?_⟩;refine c_bmustT ho (fun hz w3 ho=>⟨ho.at_ 2 rfl,?_⟩) fun hz w3 ho=>fun _ _ _ _ _ _ _ _ _ _=>bad (L:=[_,_]) hz ho;refine tk_put 0 ho rfl fun w5 ho=>?_;exact two hz ho
 ·refine o_tok ho fun b3 w3 ho=>⟨ho.at_ 2 rfl,?_⟩;refine c_below ho (R:=fun v=>v=tokR (Lx.next s a)) (next_ret s a _ hs) ?_;rintro _ w2 rfl ho;refine hd_pure _ (fun _=>run_ext0) (hd_pure _ (fun _=>run_ext1) ?_);refine c_bmustT ho (fun hz w3 ho=>⟨ho.at_ 2 rfl,?_⟩) fun hz w3 ho=>fun _ _ _ _ _ _ _ _ _ _=>bad (L:=[_,_]) hz ho;refine tk_put 0 ho rfl fun w5 ho=>?_;exact two hz ho
theorem bword_ret (b:Nat)(s:List UInt8)(a:Int)(wd:List UInt8)(w:World)(hs:s.length≤1099511627776)(hr:(brE b s a).is w) :
  Lend prog 60 #[rdP b,.string ⟨wd.toArray⟩] (brE b s a) w ((Bd.word s a wd).2=0) (fun v e'=>v=.tuple #[]∧e'=brE b s (Bd.word s a wd).1) [upE (Bd.word s a wd).2]:=by
 refine lend_of hr (fun K ho hret hpan=>S_body_reader_word_ok ?_);unfold S_body_reader_word;generalize hS0:(brE b s a).blk=S0 at *;unfold Bd.word at hret hpan;refine c_lend ho 0 rfl (bnext_ret b s a w hs (ho.at_ 0 rfl)) ?_ fun e2 w2 hn ho=>?_
 rotate_left
 ·unfold Has at hn;unfold lacks;by_cases hz:(Lx.next s a).2≠0
  ·rw[if_pos hz];rw[if_pos hz] at hpan;exact hpan hz _ _ _ ho
  ·rw[if_neg hz];have hk:(Lx.next s a).1.k=0:=by
    by_cases hk:(Lx.next s a).1.k=0
    ·exact hk
    ·exact absurd ⟨by omega,hk⟩ hn
   rw[if_neg hz,if_pos hk] at hpan;exact hpan (by decide) _ _ _ ho
 rintro _ _ w2 ⟨hz,hk⟩ ⟨rfl,rfl⟩ ho;rw[if_neg (by simp[hz]),if_neg hk] at hret hpan;generalize Lx.next s a=x at *
 refine o_tok ho fun b4 w3 ho=>?_;refine tk_put 0 ho rfl fun w4 ho=>?_;have ho:OwnS S0 w w4 [tokE b4 x.1,brE b s x.1.t]:=ho;have fin:∀q:Bool,(q=true↔(x.1.k=5∧x.1.s=wd))→CallX prog 26 #[.bool q,.int .i64 3] w4 (pk K) fun t16 w=>K (.returned (.tuple #[])) w:=by
  intro q hq;refine c_bneed (fun h=>?_) fun h=>?_
  ·obtain⟨h5,hw⟩:=hq.1 h;rw[if_neg (by simp[h5,hw])] at hret;exact hret rfl _ _ w4 [] ho.tail ⟨rfl,rfl⟩
  ·have hne:x.1.k≠5∨x.1.s≠wd:=by
    by_cases h5:x.1.k=5
    ·right;intro hw;rw[hq.2 ⟨h5,hw⟩] at h;cases h
    ·exact .inl h5
   rw[if_pos hne] at hpan;exact hpan (by decide) _ w4 [] ho.tail
 rw[fa_t0,tk_k ho 0 rfl];by_cases h5:x.1.k=5
 ·simp only[rs,decide_eq_true h5,fa_t4',tk_s ho 0 rfl];exact fin _ (by simp[h5])
 ·simp only[rs,decide_eq_false h5,g_un];exact fin _ (by simp[h5])
theorem bnum_ret (b:Nat)(s:List UInt8)(a lo hi:Int)(w:World)(hs:s.length≤1099511627776)(hr:(brE b s a).is w) :
  Lend prog 59 #[rdP b,.int .i64 lo,.int .i64 hi] (brE b s a) w ((Bd.num s a lo hi).2.2=0) (fun v e'=>v=.int .i64 (Bd.num s a lo hi).1∧e'=brE b s (Bd.num s a lo hi).2.1) [upE (Bd.num s a lo hi).2.2]:=by
 refine lend_of hr (fun K ho hret hpan=>S_body_reader_number_ok ?_);unfold S_body_reader_number;generalize hS0:(brE b s a).blk=S0 at *;unfold Bd.num at hret hpan;refine c_lend ho 0 rfl (bnext_ret b s a w hs (ho.at_ 0 rfl)) ?_ fun e2 w2 hn ho=>?_
 rotate_left
 ·unfold Has at hn;unfold lacks;by_cases hz:(Lx.next s a).2≠0
  ·rw[if_pos hz];rw[if_pos hz] at hpan;exact hpan hz _ _ _ ho
  ·rw[if_neg hz];have hk:(Lx.next s a).1.k=0:=by
    by_cases hk:(Lx.next s a).1.k=0
    ·exact hk
    ·exact absurd ⟨by omega,hk⟩ hn
   rw[if_neg hz,if_pos hk] at hpan;exact hpan (by decide) _ _ _ ho
 rintro _ _ w2 ⟨hz,hk⟩ ⟨rfl,rfl⟩ ho;rw[if_neg (by simp[hz]),if_neg hk] at hret hpan;generalize Lx.next s a=x at *
 refine o_tok ho fun b4 w3 ho=>?_;refine tk_put 0 ho rfl fun w4 ho=>?_;have ho:OwnS S0 w w4 [tokE b4 x.1,brE b s x.1.t]:=ho;rw[fa_t0,tk_k ho 0 rfl];simp only[rs];refine c_bneed (fun h=>?_) fun h=>?_
 rotate_left
 ·have h1:x.1.k≠1:=of_decide_eq_false h;rw[if_pos h1] at hpan;exact hpan (by decide) _ w4 [] ho.tail
 have h1:x.1.k=1:=of_decide_eq_true h;rw[if_neg (by simp[h1])] at hret hpan;have fin:∀q:Bool,(q=true↔(lo≤x.1.n∧x.1.n≤hi))→CallX prog 26 #[.bool q,.int .i64 2] w4 (pk K) fun t16 w=>DoX prog (mFA 58 (.pointer (some ⟨b4,0,none⟩)) 3) w (pk K) fun t25 w=>DoX prog (mLoad 2 t25) w (pk K) fun t26 w=>K (.returned t26) w:=by
  intro q hq;refine c_bneed (fun h=>?_) fun h=>?_
  ·have hb:=hq.1 h;rw[if_neg (by omega)] at hret;rw[fa_t3,tk_n ho 0 rfl];exact hret rfl _ _ w4 [] ho.tail ⟨rfl,rfl⟩
  ·have hne:x.1.n < lo∨hi < x.1.n:=by
    have hb:¬(lo≤x.1.n∧x.1.n≤hi):=fun hb=>by rw[hq.2 hb] at h;cases h
    omega
   rw[if_pos hne] at hpan;exact hpan (by decide) _ w4 [] ho.tail
 simp only[fa_t3,tk_n ho 0 rfl] at fin ⊢;by_cases h5:x.1.n≥lo
 ·simp only[rs,decide_eq_true h5,fa_t3,tk_n ho 0 rfl];exact fin (decide (x.1.n≤hi)) ⟨fun h=>⟨h5,of_decide_eq_true h⟩,fun h=>decide_eq_true h.2⟩
 ·simp only[rs,decide_eq_false h5,g_un];exact fin false ⟨fun h=>(by cases h),fun h=>absurd h.1 h5⟩
theorem bhead_ret (b:Nat)(s:List UInt8)(a:Int)(w:World)(hs:s.length≤1099511627776)(hr:(brE b s a).is w) :
  Lend prog 27 #[rdP b] (brE b s a) w ((Bd.headG s a).e=0) (fun v e'=>v=.tuple #[.int .i64 (Bd.headG s a).num,.int .i64 (Bd.headG s a).gen]∧e'=brE b s (Bd.headG s a).t) [upE (Bd.headG s a).e]:=by
 refine lend_of hr (fun K ho hret hpan=>S_body_reader_head_ok ?_);unfold S_body_reader_head;generalize hS0:(brE b s a).blk=S0 at *;unfold Bd.headG at hret hpan;refine c_lend ho 0 rfl (bnum_ret b s a 1 8191 w hs (ho.at_ 0 rfl)) ?_ fun e2 w2 hn ho=>?_
 rotate_left
 ·rw[if_pos hn] at hpan;exact hpan hn _ _ _ ho
 rintro _ _ w2 hz ⟨rfl,rfl⟩ ho;rw[if_neg (by simp[hz])] at hret hpan;refine c_lend ho 0 rfl (bnum_ret b s _ 0 65535 w2 hs (ho.at_ 0 rfl)) ?_ fun e2 w3 hn ho=>?_
 rotate_left
 ·rw[if_pos hn] at hpan;exact hpan hn _ _ _ ho
 rintro _ _ w3 hz2 ⟨rfl,rfl⟩ ho;rw[if_neg (by simp[hz2])] at hret hpan;refine c_lend ho 0 rfl (bword_ret b s _ Bd.objW w3 hs (ho.at_ 0 rfl)) ?_ fun e2 w4 hn ho=>?_
 rotate_left
 ·rw[if_pos hn] at hpan;exact hpan hn _ _ _ ho
 rintro _ _ w4 hz3 ⟨rfl,rfl⟩ ho;rw[if_neg (by simp[hz3])] at hret;exact hret rfl _ _ w4 [] ho ⟨rfl,rfl⟩
end
section
open Eng Go.RowKit
namespace Eng
theorem ret_v4 {P:Program}{w:World}{r1 r2 r3 r4:RV}{v1 v2 v3 v4:Value}{K:Ending→World→Prop}(h1:r1.read.run P w=.ok v1 w)(h2:r2.read.run P w=.ok v2 w)(h3:r3.read.run P w=.ok v3 w)(h4:r4.read.run P w=.ok v4 w)(k:K (.returned (.tuple #[v1,v2,v3,v4])) w):RetX P [r1,r2,r3,r4] w K:=
 ⟨_,by simp[resRun,h1,h2,h3,h4],k⟩
end Eng
abbrev errE (b:Nat)(e:Int):Ent:=.cells b [.int .i64 e] 30
abbrev ciE (b:Nat)(n:Int):Ent:=.cells b [.int .i64 n] 3
section
variable {w:World}{PK:PKT}{K:VWP}{S:Nat→Prop}{w0:World}{L:List Ent}
theorem c_bcaughtN {v:Value}(k:K (.tuple #[]) w):CallX prog 24 #[.nilIface,v] w PK K:=by
 refine⟨S_body_caught_ok ?_⟩;simp only[S_body_caught,Eng.e_nil Tryz.underlying20,i_t];exact k
theorem c_bcaughtE {be:Nat}{x e:Int}(ho:OwnS S w0 w L)(i:Nat)(hi:L[i]?=some (errE be x))(k:∀w',OwnS S w0 w' (L.set i (errE be e))→K (.tuple #[]) w') :
  CallX prog 24 #[.iface 96 (.agg #[.int .i64 e]),.pointer (some ⟨be,0,none⟩)] w PK K:=by
 refine⟨S_body_caught_ok ?_⟩;simp only[S_body_caught,Eng.e_some Tryz.underlying20,rs,t_hit nfG,ex,i_t,i_f];refine o_new (fun b=>.pointer (some ⟨b,0,none⟩)) [.int .i64 0] 96 (fun _=>by kernel_rfl) ho fun b5 w5 ho=>?_;refine o_put 0 ho rfl (new:=[.int .i64 e]) (show (Tryz.prog.info? 96).map (·.size)=some 1 by kernel_rfl) (by simp;rfl) rfl fun w6 ho=>?_;rw[f_addr (show fOff prog 96 0=some 0 by kernel_rfl),l_cell nErr5 (ho.cell 0 rfl 0 rfl)]
 try simp only[rs]
 refine o_store (i+1) ho (by simpa using hi) (by kernel_rfl) rfl (by simp) fun w7 ho=>?_;exact k _ ho.tail
end
theorem bhead1_plain:plainB prog 39=true:=by kernel_rfl
def hdV (h:Bd.Hd):Value:=.tuple #[.int .i64 h.num,.int .i64 h.gen,.int .i64 h.t,.int .i64 h.e]
theorem bHead_ret (s:List UInt8)(a:Int)(w:World)(hs:s.length≤1099511627776) :
  Ret prog 13 #[.string ⟨s.toArray⟩,.int .i64 a] w (fun v w'=>v=hdV (Bd.head s a)∧Below w.heap.size w w'):=by
 refine ret_of fun K hK=>S_body_Head_ok ?_;unfold S_body_Head;refine o_new (fun b=>.pointer (some ⟨b,0,none⟩)) [.int .i64 0] 3 (fun _=>by kernel_rfl) (Own.start w) fun b4 w1 ho=>?_;refine o_new (fun b=>.pointer (some ⟨b,0,none⟩)) [.int .i64 0] 3 (fun _=>by kernel_rfl) ho fun b5 w2 ho=>?_;refine o_new (fun b=>.pointer (some ⟨b,0,none⟩)) [.int .i64 0] 3 (fun _=>by kernel_rfl) ho fun b6 w3 ho=>?_;refine o_new (fun b=>.pointer (some ⟨b,0,none⟩)) [.int .i64 0] 30 (fun _=>by kernel_rfl) ho fun b7 w4 ho=>?_;have ho:OwnS NoB w w4 [errE b7 0,ciE b6 0,ciE b5 0,ciE b4 0]:=ho;rw[m_func];refine⟨_,rfl,?_⟩;have fail:∀{W:World} {L:List Ent} {x y z e:Int},OwnS NoB w W (L++([errE b7 x,ciE b6 0,ciE b5 y,ciE b4 z]++[]))→e≠0→Bd.head s a=⟨0,0,0,e⟩ →
   S_body_Head_p0 { target:=.fn (.func 39) #[.pointer (some ⟨b7,0,none⟩),.pointer (some ⟨b4,0,none⟩),.pointer (some ⟨b5,0,none⟩),.pointer (some ⟨b6,0,none⟩)],args:=#[]++#[] } (.pointer (some ⟨b4,0,none⟩)) (.pointer (some ⟨b5,0,none⟩)) (.pointer (some ⟨b6,0,none⟩)) (.pointer (some ⟨b7,0,none⟩)) K [upE e] W:=by
  intro W L x y z e ho h0 hh;have ho:=ho.front;show pd prog _ K _ [upE e] W;unfold pd;refine leave_fn (by simp) bhead1_plain (S_body_Head_1_dok (t0:=.pointer (some ⟨b7,0,none⟩)) (t1:=.pointer (some ⟨b4,0,none⟩)) (t2:=.pointer (some ⟨b5,0,none⟩)) (t3:=.pointer (some ⟨b6,0,none⟩)) ?_);simp only[S_body_Head_1,recV,recM,upE];refine c_bcaughtE (e:=e) ho 0 rfl fun w5 ho=>?_;have ho:OwnS NoB w w5 (errE b7 e::ciE b6 0::ciE b5 y::ciE b4 z::(L++[])):=ho;unfold S_body_Head_1_r;rw[l_cell nErr5 (ho.cell 0 rfl 0 rfl)];simp only[rs,decide_eq_true (show e≠0 from h0),i_t];refine o_store 3 ho rfl (by kernel_rfl) rfl (by simp) fun w6 ho=>?_;refine o_store 2 ho rfl (by kernel_rfl) rfl (by simp) fun w7 ho=>?_;refine o_store 1 ho rfl (by kernel_rfl) rfl (by simp) fun w8 ho=>?_;refine ret_v4 (rv_cell (AtV.cell nInt5 (ho.cell 3 rfl 0 rfl))) (rv_cell (AtV.cell nInt5 (ho.cell 2 rfl 0 rfl))) (rv_cell (AtV.cell nInt5 (ho.cell 1 rfl 0 rfl))) (rv_cell (AtV.cell nErr5 (ho.cell 0 rfl 0 rfl))) (hK _ _ ⟨?_,ho.done⟩);rw[hh];rfl
 by_cases hr:0≤a∧a≤s.length
 case neg=>
  refine c_bfrom ho (fun h=>absurd h hr) fun _=>fail (L:=[]) ho (by decide) ?_;unfold Bd.head;rw[if_pos (by omega)]
 have hh:Bd.head s a=Bd.headG s a:=by unfold Bd.head;rw[if_neg (by omega)]
 refine c_bfrom ho (fun _ b w5 ho=>?_) fun h=>absurd hr h;have ho:OwnS NoB w w5 [brE b s a,errE b7 0,ciE b6 0,ciE b5 0,ciE b4 0]:=ho;refine c_lend ho 0 rfl (bhead_ret b s a w5 hs (ho.at_ 0 rfl)) ?_ fun e2 w6 hn ho=>?_
 rotate_left
 ·refine fail (L:=[e2]) ho hn ?_;rw[hh];unfold Bd.headG at hn ⊢;split
  ·rfl
  rename_i h1
  rw[if_neg h1] at hn;split
  ·rfl
  rename_i h2
  rw[if_neg h2] at hn;split
  ·rfl
  rename_i h3
  rw[if_neg h3] at hn;exact absurd rfl hn
 rintro _ _ w6 hz ⟨rfl,rfl⟩ ho;simp only[ex];refine o_store 4 ho rfl (by kernel_rfl) rfl (by simp) fun w7 ho=>?_;refine o_store 3 ho rfl (by kernel_rfl) rfl (by simp) fun w8 ho=>?_;have ho:OwnS NoB w w8 [brE b s (Bd.headG s a).t,errE b7 0,ciE b6 0,ciE b5 (Bd.headG s a).gen,ciE b4 (Bd.headG s a).num]:=ho;rw[←hh] at ho hz;have ho:=ho.drew;refine⟨fun W=>(brE b s (Bd.head s a).t).is W∧(ciE b5 (Bd.head s a).gen).is W∧(ciE b4 (Bd.head s a).num).is W,⟨ho.at_ 0 rfl,ho.at_ 3 rfl,ho.at_ 4 rfl⟩,?_⟩;refine hd_do _ (fun W h=>run_load_cell nInt5 (cells_cell (T:=3) (cs:=[.int .i64 (Bd.head s a).num]) (i:=0) h.2.2 rfl)) ?_;refine hd_do _ (fun W h=>run_load_cell nInt5 (cells_cell (T:=3) (cs:=[.int .i64 (Bd.head s a).gen]) (i:=0) h.2.1 rfl)) ?_;refine hd_pure _ (fun _=>run_nil) (hd_pure _ (fun _=>run_fa fbr1) (hd_do _ (fun W h=>br_a h.1) ?_));refine o_store 4 ho rfl (by kernel_rfl) rfl (by simp) fun w9 ho=>⟨⟨ho.at_ 0 rfl,ho.at_ 3 rfl,ho.at_ 4 rfl⟩,?_⟩;refine o_store 3 ho rfl (by kernel_rfl) rfl (by simp) fun w10 ho=>⟨⟨ho.at_ 0 rfl,ho.at_ 3 rfl,ho.at_ 4 rfl⟩,?_⟩;refine o_store 2 ho rfl (by kernel_rfl) rfl (by simp) fun w11 ho=>?_;refine o_store 1 ho rfl (by kernel_rfl) rfl (by simp) fun w12 ho=>?_;refine leave_fn (by simp) bhead1_plain (S_body_Head_1_dok (t0:=.pointer (some ⟨b7,0,none⟩)) (t1:=.pointer (some ⟨b4,0,none⟩)) (t2:=.pointer (some ⟨b5,0,none⟩)) (t3:=.pointer (some ⟨b6,0,none⟩)) ?_);simp only[S_body_Head_1,recV,recM];refine c_bcaughtN ?_;unfold S_body_Head_1_r;rw[l_cell nErr5 (ho.cell 1 rfl 0 rfl)];simp only[rs,show decide ((0:Int)≠0)=false by decide,i_f];refine ret_v4 (rv_cell (AtV.cell nInt5 (ho.cell 4 rfl 0 rfl))) (rv_cell (AtV.cell nInt5 (ho.cell 3 rfl 0 rfl))) (rv_cell (AtV.cell nInt5 (ho.cell 2 rfl 0 rfl))) (rv_cell (AtV.cell nErr5 (ho.cell 1 rfl 0 rfl))) (hK _ _ ⟨?_,ho.done⟩);rw[hdV,hz]
theorem bobject_ret (b:Nat)(s:List UInt8)(a:Int)(M:Mem)(w:World)(hs:s.length≤1000000000)(hr:(Ent.two (brE b s a) (.mem M)).is w) :
  Lent prog 28 #[rdP b] (brE b s a) M w ((Ps.object s a).2.2=0) (brE b s (Ps.object s a).2.1) (fun v N=>OV N.A N.w v (Ps.object s a).1) [upE (Ps.object s a).2.2]:=by
 refine lent_of (fun K ho hret hpan=>S_body_reader_object_ok ?_) hr;unfold S_body_reader_object;generalize hS0:(Ent.two (brE b s a) (.mem M)).blk=S0 at *;refine o_oba ho fun b2 w1 ho=>?_;have two:∀{W:World} {b3:Nat} {N:Mem} {xk xc:Value},OwnS S0 w W [obE b3 (Ps.object s a).1 xk xc,obE b2 ob0 nilS nilS,brE b s a,.mem N]→M.le N→OV N.A N.w (obV (Ps.object s a).1 xk xc) (Ps.object s a).1 →
   S_body_reader_object_0 (rdP b) (.pointer (some ⟨b2,0,none⟩)) (.pointer (some ⟨b3,0,none⟩)) (.int .i64 (Ps.object s a).2.1) (.int .i64 (Ps.object s a).2.2) W K:=by
  intro W b3 N xk xc ho hle hov;generalize Ps.object s a=x at *;unfold S_body_reader_object_0;simp only[rs];refine c_bneed (fun h=>?_) fun h=>hpan (of_decide_eq_false h) _ N W [] ho.tail.tail hle;rw[fa_br1];refine br_put 2 ho rfl fun w2 ho=>?_;have ho:OwnS S0 w w2 [obE b3 x.1 xk xc,obE b2 ob0 nilS nilS,brE b s x.2.1,.mem N]:=ho;rw[ob_v ho 0 rfl];refine ob_put 1 hov.oneK hov.oneC ho rfl fun w3 ho=>?_;refine ret_v1 (rv_cell (ho.agg 1 rfl aggOb)) ?_;exact hret (of_decide_eq_true h) _ N w3 [] ho.tail.tail hle hov
 have ho:=ho.drew;refine⟨fun W=>(brE b s a).is W,ho.at_ 1 rfl,?_⟩;refine hd_pure _ (fun _=>run_nil) (hd_pure _ (fun _=>run_fa fbr0) (hd_do _ (fun W h=>br_s h) ?_));refine hd_pure _ (fun _=>run_nil) (hd_pure _ (fun _=>run_fa fbr1) (hd_do _ (fun W h=>br_a h) ?_));refine⟨?_,?_⟩
 ·refine c_mem ho 2 rfl (psobject_ret s a hs M _ (ho.hasM 2 rfl)) ?_;rintro _ N w2 hle ⟨u,rfl,hu⟩ ho;obtain⟨xk,xc,xcs,rfl,hx⟩:=hu.open;refine hd_pure (obV (Ps.object s a).1 xk xc) (fun _=>rfl) (hd_pure (.int .i64 (Ps.object s a).2.1) (fun _=>rfl) (hd_pure (.int .i64 (Ps.object s a).2.2) (fun _=>rfl) ?_));refine o_oba ho fun b3 w3 ho=>⟨ho.at_ 2 rfl,?_⟩;refine ob_put 0 hx.keys.one hx.kids.one ho rfl fun w4 ho=>?_;exact two ho hle hx.ov
 ·refine o_oba ho fun b3 w3 ho=>⟨ho.at_ 2 rfl,?_⟩;refine c_mem ho 3 rfl (psobject_ret s a hs M _ (ho.hasM 3 rfl)) ?_;rintro _ N w2 hle ⟨u,rfl,hu⟩ ho;obtain⟨xk,xc,xcs,rfl,hx⟩:=hu.open;refine hd_pure (obV (Ps.object s a).1 xk xc) (fun _=>rfl) (hd_pure (.int .i64 (Ps.object s a).2.1) (fun _=>rfl) (hd_pure (.int .i64 (Ps.object s a).2.2) (fun _=>rfl) ?_));refine ob_put 0 hx.keys.one hx.kids.one ho rfl fun w4 ho=>?_;exact two ho hle hx.ov
theorem bCheck_ret (i:It){vk vc:Value}(w:World)(hw:i.obj.wt≤100000000000)(hv:OV (InW w) w (obV i.obj vk vc) i.obj):Ret prog 18 #[itV i vk vc] w (fun v w'=>v=.int .i64 (Bd.check i)∧Below w.heap.size w w'):=by
 refine ret_of fun K hK=>S_body_Check_ok ?_;unfold S_body_Check;refine o_itb i hv.oneK hv.oneC (Own.start w) fun b w1 ho=>?_;have out:Dk.numbers i=false→K (.returned (.int .i64 2)) w1:=fun h=>hK _ _ ⟨by rw[Bd.check,if_pos h],ho.done⟩;have hn:Dk.numbers i=true↔1≤i.num∧i.num≤8191∧0≤i.gen∧i.gen≤65535:=by
  simp only[Dk.numbers,Bool.and_eq_true,decide_eq_true_eq];omega
 have outs:¬(1≤i.num∧i.num≤8191∧0≤i.gen∧i.gen≤65535)→K (.returned (.int .i64 2)) w1:=fun h=>out (by
  cases hq:Dk.numbers i with
 |true=>exact absurd (hn.1 hq) h
 |false=>rfl)
 by_cases h1:i.num < 1
 ·simp only[rs,fa_i0,it_num ho 0 rfl,decide_eq_true h1,g_un];exact outs (by omega)
 by_cases h2:i.num>8191
 ·simp only[rs,fa_i0,it_num ho 0 rfl,decide_eq_false h1,decide_eq_true h2,g_un];exact outs (by omega)
 by_cases h3:i.gen < 0
 ·simp only[rs,fa_i0,fa_i1,it_num ho 0 rfl,it_gen ho 0 rfl,decide_eq_false h1,decide_eq_false h2,decide_eq_true h3,g_un];exact outs (by omega)
 by_cases h4:i.gen>65535
 ·simp only[rs,fa_i0,fa_i1,it_num ho 0 rfl,it_gen ho 0 rfl,decide_eq_false h1,decide_eq_false h2,decide_eq_false h3,decide_eq_true h4,g_un];exact outs (by omega)
 simp only[rs,fa_i0,fa_i1,it_num ho 0 rfl,it_gen ho 0 rfl,decide_eq_false h1,decide_eq_false h2,decide_eq_false h3,decide_eq_false h4,g_un,fa_i2,it_obj ho 0 rfl];have hnt:Dk.numbers i=true:=hn.2 (by omega);obtain⟨cs,ha⟩:=hv.slices;refine c_told (vCheck_ret i.obj _ w1 (ha.in_ ho).ov (by omega)) rfl ho fun w2 ho=>?_;rw[n_err];by_cases hc:Vl.check 1 i.obj=0
 case neg=>
  simp only[decide_eq_true (show Vl.check 1 i.obj≠0 from hc),i_t];exact hK _ _ ⟨by rw[Bd.check,if_neg (by simp[hnt]),if_pos hc],ho.done⟩
 simp only[hc,show decide ((0:Int)≠0)=false by decide,i_f,fa_i2,fa_o0,it_k ho 0 rfl,rs];by_cases h8:i.obj.k=8
 ·simp only[decide_eq_true h8,i_t];exact hK _ _ ⟨by rw[Bd.check,if_neg (by simp[hnt]),if_neg (by simp[hc]),if_pos h8],ho.done⟩
 ·simp only[decide_eq_false h8,i_f];exact hK _ _ ⟨by rw[Bd.check,if_neg (by simp[hnt]),if_neg (by simp[hc]),if_neg h8],ho.done⟩
end
end Go.Proofs.YtkejpieaafeblaaGreatDoor


namespace Go.Proofs.YtkejpieaafeblaaGreatDoor
section
open Eng
def S_value_Stream (t0 t1:Value)(w:World)(K:Ending→World→Prop):Prop:=
 DoX prog (mBox 25 t0) w (pk K) fun t2 w=>
 DoX prog (mAlloc 25) w (pk K) fun t4 w=>
 DoX prog (mFA 25 t2 0) w (pk K) fun t8 w=>
 DoX prog (mLoad 3 t8) w (pk K) fun t9 w=>
 DoX prog (mEq .neq 3 (.tmp 9) (.const (.int .i64 7)) t9 (.int .i64 7)) w (pk K) fun t10 w=>
 IfX t10 (DoX prog (mBuild 25 #[]) w (pk K) fun t11 w=>
 DoX prog (mStore 25 t4 t11) w (pk K) fun _ w=>
 RetX prog [.cell t4 25,.val (.int .i64 10)] w K) (DoX prog (mLoad 25 t2) w (pk K) fun t12 w=>
 CallX prog 57 #[t12] w (pk K) fun t13 w=>
 DoX prog (mEq .neq 30 (.tmp 14) (.const (.int .i64 0)) t13 (.int .i64 0)) w (pk K) fun t15 w=>
 IfX t15 (DoX prog (mBuild 25 #[]) w (pk K) fun t16 w=>
 DoX prog (mStore 25 t4 t16) w (pk K) fun _ w=>
 RetX prog [.cell t4 25,.val t13] w K) (DoX prog (mLoad 25 t2) w (pk K) fun t18 w=>
 CallX prog 86 #[t18,(.string ⟨#[76,101,110,103,116,104]⟩)] w (pk K) fun t19 w=>
 DoX prog (mAlloc 25) w (pk K) fun t7 w=>
 DoX prog (mStore 25 t7 t19) w (pk K) fun _ w=>
 DoX prog (mFA 25 t7 0) w (pk K) fun t20 w=>
 DoX prog (mStore 3 t20 (.int .i64 9)) w (pk K) fun _ w=>
 DoX prog (mFA 25 t7 3) w (pk K) fun t22 w=>
 DoX prog (mStore 9 t22 t1) w (pk K) fun _ w=>
 DoX prog (mLoad 25 t7) w (pk K) fun t23 w=>
 CallX prog 87 #[t23] w (pk K) fun t24 w=>
 DoX prog (mExt t24 0) w (pk K) fun t25 w=>
 DoX prog (mExt t24 1) w (pk K) fun t26 w=>
 DoX prog (mStore 25 t4 t25) w (pk K) fun _ w=>
 RetX prog [.cell t4 25,.val t26] w K))
theorem S_value_Stream_eq (t0 t1:Value)(w:World)(K:Ending→World→Prop):wpX prog 27 [] [] none (bodyOf Tryz.f65) (topQ prog [.cell 4 25,.tmp 5] K) (startX [t0,t1]) [] w=S_value_Stream t0 t1 w K:=by kernel_rfl
theorem S_value_Stream_ok {t0 t1:Value}{w:World}{K:Ending→World→Prop}(h:S_value_Stream t0 t1 w K):Calls prog 65 #[t0,t1] w K:=
 calls_of_wpX Tryz.func65 rfl rfl rfl rfl (Eq.mpr (S_value_Stream_eq t0 t1 w K) h)
end
end Go.Proofs.YtkejpieaafeblaaGreatDoor

namespace Go.Proofs.YtkejpieaafeblaaGreatDoor
section
open Eng Go.RowKit
theorem vstream_ret (o:Ob)(v:Value)(data:List UInt8)(M:Mem)(w:World)(h7:o.k=7)(hc:Vl.check 1 o=0)(hd:data.length≤1048576)(hw:o.wt≤1000000000)(hM:M.has w)(hv:OV M.A M.w v o) :
  RetM prog 65 #[v,.string ⟨data.toArray⟩] M w (fun r N=>∃v',r=errV v' 0∧OV N.A N.w v' (Bd.strm o data)):=by
 obtain⟨vk,vc,cs,rfl,ha⟩:=hv.open;refine retM_of hM fun K hK=>S_value_Stream_ok ?_;unfold S_value_Stream;refine o_obb o ha.keys.one ha.kids.one (OwnS.memS hM) fun b2 w1 ho=>?_;refine o_oba ho fun b4 w2 ho=>?_;rw[fa_o0,ob_k ho 1 rfl];simp only[rs,h7,show decide ((7:Int)≠7)=false by decide,i_f];rw[ob_v ho 1 rfl];refine c_below ho (R:=fun v=>v=.int .i64 (Vl.check 1 o)) (vCheck_ret o _ w2 (OV.inw (ho.hasM 2 rfl) hv) (by omega)) ?_;rintro _ w3 rfl ho;simp only[hc,n_err,show decide ((0:Int)≠0)=false by decide,i_f];rw[ob_v ho 1 rfl];refine c_mem ho 2 rfl (vdrop_ret o _ Vl.lenK M w3 (by omega) (ho.hasM 2 rfl) hv) fun y N w4 hle hy ho=>?_;have hdr:Vl.drop o Vl.lenK=Vl.without o Vl.lenK:=by unfold Vl.drop;exact Bd.drop_without hc h7
 rw[hdr] at hy;have hck:=Bd.strm_check (data:=data) hc h7 hd;have hwt:=Vl.without_wt o Vl.lenK;have hst:Bd.strm o data=.mk 9 (Vl.without o Vl.lenK).n (Vl.without o Vl.lenK).g data (Vl.without o Vl.lenK).keys (Vl.without o Vl.lenK).kids:=rfl;generalize Vl.without o Vl.lenK=x at *;obtain⟨yk,yc,ycs,rfl,hya⟩:=hy.open;refine o_oba ho fun b7 w5 ho=>?_;refine ob_put 0 hya.keys.one hya.kids.one ho rfl fun w6 ho=>?_;rw[fa_o0];refine o_store 0 ho rfl (by kernel_rfl) rfl (show 0 < 6 by omega) fun w7 ho=>?_;rw[fa_o3];refine o_store 0 ho rfl (by kernel_rfl) rfl (show 0+3 < 6 by omega) fun w8 ho=>?_;have ho:OwnS M.A w w8 [obE b7 (Bd.strm o data) yk yc,obE b4 ob0 nilS nilS,obE b2 o vk vc,.mem N]:=by rw[hst];exact ho
 have hsv:OV N.A N.w (obV (Bd.strm o data) yk yc) (Bd.strm o data):=by
  rw[hst];exact ObAt.ov (o:=.mk 9 x.n x.g data x.keys x.kids) (vk:=yk) (vc:=yc) (cs:=ycs) ⟨hya.keys,hya.kids,hya.all⟩
 have hsw:(Bd.strm o data).wt≤100000000000:=by
  have e1:=Vl.wt_eq (Bd.strm o data);have e2:=Vl.wt_eq x;rw[hst] at e1 ⊢;simp only[Ob.s,Ob.keys,Ob.kids] at e1 e2 ⊢;omega
 rw[ob_v ho 0 rfl];refine c_mem ho 3 rfl (sound_ret _ _ N w8 hsw (ho.hasM 3 rfl) hsv) ?_;rintro _ N2 w9 hle2 ⟨t,rfl,ht⟩ ho;have hrt:Vl.right (Bd.strm o data)=(Bd.strm o data,0):=by unfold Vl.right;rw[if_neg (by simp[hck])]
 rw[hrt] at ht;obtain⟨tk,tc,tcs,rfl,hta⟩:=ht.open;simp only[errV,ex,hrt];refine ob_put 1 hta.keys.one hta.kids.one ho rfl fun w10 ho=>?_;exact ret_ob2 1 ho rfl (hK _ _ N2 _ 3 ho rfl (hle.trans hle2) ⟨_,rfl,hta.ov⟩)
theorem c_bown {w:World}{PK:PKT}{K:VWP}{S:Nat→Prop}{w0:World}{L:List Ent}{o:Ob}{v:Value}{M:Mem}(i:Nat)(hw:o.wt≤100000000000)(ho:OwnS S w0 w L)(hi:L[i]?=some (.mem M))(hv:OV M.A M.w v o)
  (kr:(Bd.own o).2=0→∀N w',M.le N→OwnS S w0 w' (L.set i (.mem N))→K (.int .i64 (Bd.own o).1) w') (kp:(Bd.own o).2≠0→∀N w',M.le N→OwnS S w0 w' (L.set i (.mem N))→PK [upE (Bd.own o).2] w'):CallX prog 64 #[v] w PK K:=by
 obtain⟨vk,vc,cs,rfl,ha⟩:=hv.open;refine⟨S_body_own_ok ?_⟩;unfold S_body_own;refine o_obb o ha.keys.one ha.kids.one ho fun b1 w1 ho=>?_;rw[ob_v ho 0 rfl];refine c_mem ho (i+1) (by simpa using hi) (vget_ret o _ Vl.lenK M w1 hw (ho.hasM (i+1) (by simpa using hi)) hv) ?_;rintro _ N w2 hle ⟨u,rfl,hu⟩ ho;obtain⟨xk,xc,xcs,rfl,hx⟩:=hu.open;simp only[getV,ex];refine o_oba ho fun b3 w3 ho=>?_;refine ob_put 0 hx.keys.one hx.kids.one ho rfl fun w4 ho=>?_;have hO:OwnS S w0 w4 (L.set i (.mem N)):=ho.tail.tail;unfold Bd.own at kr kp;cases hg:Vl.get o Vl.lenK with
|none=>
  rw[hg] at kp;simp only[Option.isSome];exact c_bneed (fun h=>by cases h) fun _=>kp (by decide) N w4 hle hO
|some x=>
  rw[hg] at kr kp ho;simp only[Option.isSome] at ho ⊢;simp only at kr kp;refine c_bneed (fun _=>?_) fun h=>by cases h
  rw[fa_o0,ob_k ho 0 rfl];simp only[rs,Option.getD_some];refine c_bneed (fun h=>?_) fun h=>?_
  rotate_left
  ·rw[if_pos (of_decide_eq_false h)] at kp;exact kp (by decide) N w4 hle hO
  have h2:x.k=2:=of_decide_eq_true h;rw[if_neg (by simp[h2])] at kr kp;rw[fa_o1,ob_n ho 0 rfl];simp only[rs,Option.getD_some];refine c_bneed (fun h=>?_) fun h=>?_
  rotate_left
  ·have hn:x.n < 0:=by have:=of_decide_eq_false h;omega
   rw[if_pos hn] at kp;exact kp (by decide) N w4 hle hO
  have hn:0≤x.n:=of_decide_eq_true h;rw[if_neg (by omega)] at kr;rw[fa_o1,ob_n ho 0 rfl];exact kr rfl N w4 hle hO
end
section
open Eng Go.RowKit
theorem o_strb2b (s t:List UInt8){w:World}{PK:PKT}{K:VWP}{S:Nat→Prop}{w0:World}{L:List Ent}(ho:OwnS S w0 w L)(k:∀b w',OwnS S w0 w' (.cells b [.string ⟨s.toArray⟩,.string ⟨t.toArray⟩] 9::L)→K (.slice (some ⟨b,0,none⟩) 2 2) w') :
  DoX prog (mBuildS 22 2 #[(0,.string ⟨s.toArray⟩),(1,.string ⟨t.toArray⟩)]) w PK K:=
 o_new (fun b=>.slice (some ⟨b,0,none⟩) 2 2) [.string ⟨s.toArray⟩,.string ⟨t.toArray⟩] 9 (fun _=>by kernel_rfl) ho k
theorem begins_cons (l p:List UInt8):begins l p 0=p.isPrefixOf l:=by simp[begins]
theorem bline_ret (b:Nat)(s:List UInt8)(a:Nat)(w:World)(ha:a≤s.length)(hs:s.length≤1099511627776)(hr:(brE b s a).is w) :
  Lend prog 63 #[rdP b] (brE b s a) w ((Bd.line s a).2=0) (fun v e'=>v=.tuple #[]∧e'=brE b s (Bd.line s a).1) [upE (Bd.line s a).2]:=by
 refine lend_of hr (fun K ho hret hpan=>S_body_reader_line_ok ?_);unfold S_body_reader_line;generalize hS0:(brE b s a).blk=S0 at *;refine quiet ?_;refine q_do _ (fun _=>run_nil) (q_do _ (fun _=>run_fa fbr0) (q_at _ (fun _ hb=>br_s ((ho.grow hb).at_ 0 rfl)) ?_));refine q_do _ (fun _=>run_nil) (q_do _ (fun _=>run_fa fbr1) (q_at _ (fun _ hb=>br_a ((ho.grow hb).at_ 0 rfl)) ?_));refine q_do (.string ⟨(s.drop a).toArray⟩) (fun _=>run_from Tryz.underlying9 (by omega) (by omega)) ?_;intro w1 hb;have ho:=ho.grow hb;have ho:OwnS S0 w w1 [brE b s a]:=ho;unfold Bd.line at hret hpan;have hlen:(s.drop a).length=s.length - a:=List.length_drop;generalize hl:s.drop a=l at *;have en0:∀{W:World} {PK:PKT} {K:VWP} {xo yo:Operand},DoX prog (mEq .neq 9 xo yo (.string ⟨l.toArray⟩) (.string ⟨#[]⟩)) W PK K=K (.bool (decide (l≠[]))) W:=n_str (b:=[]);have en1:∀{W:World} {PK:PKT} {K:VWP} {xo yo:Operand},DoX prog (mEq .neq 9 xo yo (.string ⟨l.toArray⟩) (.string ⟨#[13]⟩)) W PK K=K (.bool (decide (l≠[13]))) W:=n_str (b:=[13]);rw[en0];cases l with
|nil=>
  simp only[rs,show decide (([]:List UInt8)≠[])=false by decide,g_un];exact c_bneed (fun h=>by cases h) fun _=>hpan (by simp) _ w1 [] ho
|cons c t=>
  simp only at hret hpan;simp only[rs,show decide ((c::t)≠[])=true by simp,en1];refine c_bneed (fun h=>?_) fun h=>?_
  rotate_left
  ·have h13:c::t=[13]:=by have:=of_decide_eq_false h;simpa using this
   injection h13 with e1 e2
   rw[if_pos ⟨e1,e2⟩] at hpan;exact hpan (by decide) _ w1 [] ho
  have h13:¬(c=13∧t=[]):=by
   rintro⟨rfl,rfl⟩;exact (of_decide_eq_true h) rfl
  rw[if_neg h13] at hret hpan;refine o_strb2b [10] [13,10] ho fun b2 w2 ho=>?_;have ho:OwnS S0 w w2 [.cells b2 [.string ⟨#[10]⟩,.string ⟨#[13,10]⟩] 9,brE b s a]:=ho;have hlen2:∀{W:World} {PK:PKT} {K:VWP} {T:TypeId} {cb:Array Bool},DoX prog (mB .len #[22] T cb #[.slice (some ⟨b2,0,none⟩) 2 2]) W PK K=K (.int .i64 2) W:=do_eq (by kernel_rfl);rw[hlen2];refine loop (fun vs' W=>∃i:Nat,vs'=[.int .i64 i]∧i≤2∧(1≤i→c≠10)∧(2≤i→¬(c=13∧t.head?=some 10))∧OwnS S0 w W [.cells b2 [.string ⟨#[10]⟩,.string ⟨#[13,10]⟩] 9,brE b s a]) (fun vs' _=>2 - n0 vs') ⟨0,rfl,by omega,fun h=>absurd h (by omega),fun h=>absurd h (by omega),ho⟩ ?_;clear ho;rintro vs' w3 ⟨i,rfl,hi,h1,h2,ho⟩ _;simp only[S_body_reader_line_0,gd,rs];have hit:∀{p:List UInt8} {W:World},OwnS S0 w W [.cells b2 [.string ⟨#[10]⟩,.string ⟨#[13,10]⟩] 9,brE b s a]→p.length≤2 →
    (if c=10 then ((a+1,0):Nat×Int) else if c=13∧t.head?=some 10 then (a+2,0) else (0,3))=(a+p.length,0) →
    DoX prog (mFA 62 (rdP b) 1) W (pk K) (fun t32 w=>DoX prog (mLoad 3 t32) w (pk K) fun t33 w=>DoX prog (mB .len #[9] 3 #[false] #[.string ⟨p.toArray⟩]) w (pk K) fun t35 w=>DoX prog (mBin .add 3 t33 t35) w (pk K) fun t36 w=>
     DoX prog (mFA 62 (rdP b) 1) w (pk K) fun t38 w=>DoX prog (mStore 3 t38 t36) w (pk K) fun _ w=>K (.returned (.tuple #[])) w):=by
   intro p W ho hp he;rw[he] at hret;rw[fa_br1];refine do_eq (br_a (ho.at_ 1 rfl)) |>.mpr ?_;rw[s_len Tryz.underlying9];simp only[rs];rw[wrap64_id (by omega) (by omega),fa_br1];refine br_put 1 ho rfl fun w5 ho=>?_;exact hret rfl _ _ w5 [] ho.tail ⟨rfl,by simp⟩
  by_cases hlt:(i:Int) < 2
  case neg=>
   simp only[decide_eq_false hlt,i_f];have e:(if c=10 then ((a+1,0):Nat×Int) else if c=13∧t.head?=some 10 then (a+2,0) else (0,3))=(0,3):=by rw[if_neg (h1 (by omega)),if_neg (h2 (by omega))]
   rw[e] at hpan;exact c_bneed (fun h=>by cases h) fun _=>hpan (by decide) _ w3 [] ho.tail
  simp only[decide_eq_true hlt,i_t];have hc01:i=0∨i=1:=by omega
  rcases hc01 with rfl|rfl
  ·have i0:∀{PK:PKT} {K:VWP},DoX prog (mIA 22 (.slice (some ⟨b2,0,none⟩) 2 2) (.int .i64 ((0:Nat):Int))) w3 PK K=K (.pointer (some ⟨b2,0,none⟩)) w3:=do_eq (by kernel_rfl);rw[i0,l_cell nStr5 (ho.cell 0 rfl 0 rfl)];refine c_eq (begins_ret (c::t) [10] 0 w3) ?_;rw[begins_cons];by_cases h10:c=10
   ·subst h10;simp only[List.isPrefixOf,beq_self_eq_true,Bool.true_and,i_t];exact hit (p:=[10]) ho (by simp) (by rw[if_pos rfl];rfl)
   ·have hp:List.isPrefixOf [10] (c::t)=false:=by simp[List.isPrefixOf];exact fun h=>h10 h.symm
    rw[hp];simp only[i_f];rw[wrap64_id (by omega) (by omega)];exact nextX ⟨1,rfl,by omega,fun _=>h10,fun h=>absurd h (by omega),ho⟩ (by simp[n0,RowKit.intOf])
  ·have i1:∀{PK:PKT} {K:VWP},DoX prog (mIA 22 (.slice (some ⟨b2,0,none⟩) 2 2) (.int .i64 ((1:Nat):Int))) w3 PK K=K (.pointer (some ⟨b2,1,none⟩)) w3:=do_eq (by kernel_rfl);rw[i1,l_cell nStr5 (ho.cell 0 rfl 1 rfl)];refine c_eq (begins_ret (c::t) [13,10] 0 w3) ?_;rw[begins_cons];by_cases h1310:c=13∧t.head?=some 10
   ·obtain⟨rfl,ht⟩:=h1310;obtain⟨t',rfl⟩:∃t',t=10::t':=by
     cases t with
    |nil=>cases ht
    |cons d t'=>exact⟨t',by rw[Option.some.inj ht]⟩
    simp only[List.isPrefixOf,beq_self_eq_true,Bool.true_and,i_t];exact hit (p:=[13,10]) ho (by simp) (by rw[if_neg (by decide),if_pos ⟨rfl,rfl⟩];rfl)
   ·have hp:List.isPrefixOf [13,10] (c::t)=false:=by
     cases t with
    |nil=>simp[List.isPrefixOf]
    |cons d t'=>
      simp only[List.isPrefixOf,Bool.and_true,Bool.and_eq_false_iff,beq_eq_false_iff_ne,ne_eq];by_cases hc:(13:UInt8)=c
      ·exact .inr fun hd=>h1310 ⟨hc.symm,by rw[←hd];rfl⟩
      ·exact .inl hc
    rw[hp];simp only[i_f];rw[wrap64_id (by omega) (by omega)];exact nextX ⟨2,rfl,by omega,fun _=>h1 (by omega),fun _=>h1310,ho⟩ (by simp[n0,RowKit.intOf])
end
end Go.Proofs.YtkejpieaafeblaaGreatDoor



namespace Go.Proofs.YtkejpieaafeblaaGreatDoor
section
open Eng Go.RowKit
theorem r_leqI {P:Program}{w:World}{T:TypeId}{k:IntKind}{a b:Int}:(mBin .leq T (.int k a) (.int k b)).run P w=.ok (.value (.bool (decide (a≤b)))) w:=mv_run (by simp[binOp,Op.intCmp])
def Bd.stE (s:List UInt8)(a:Nat)(len:Int)(o:Ob):Int:=if (Bd.stream s a len o).2.2≠0 then (Bd.stream s a len o).2.2 else (Bd.word s (Bd.stream s a len o).2.1 Bd.endobj).2
theorem bstream_ret (b:Nat)(s:List UInt8)(a:Nat)(len:Int)(o:Ob)(v:Value)(M:Mem)(w:World)(ha:a≤s.length)(hs:s.length≤1000000000)(h7:o.k=7)(hc:Vl.check 1 o=0)(hw:o.wt≤1000000000)(hv:OV M.A M.w v o)(hr:(Ent.two (brE b s a) (.mem M)).is w) :
  Lent prog 30 #[rdP b,v,.int .i64 len] (brE b s a) M w (Bd.stE s a len o=0) (brE b s (Bd.word s (Bd.stream s a len o).2.1 Bd.endobj).1) (fun r N=>OV N.A N.w r (Bd.stream s a len o).1) [upE (Bd.stE s a len o)]:=by
 obtain⟨vk,vc,cs,rfl,hat⟩:=hv.open;refine lent_of (fun K ho hret hpan=>S_body_reader_stream_ok ?_) hr;unfold S_body_reader_stream;generalize hS0:(Ent.two (brE b s a) (.mem M)).blk=S0 at *;have fail:∀{e:Int} {W:World} {e2:Ent} {N:Mem} {A:List Ent},Bd.stream s a len o=(Vl.ob0,0,e)→e≠0→OwnS S0 w W (A++([e2,.mem N]++[]))→M.le N→K (.panicked [upE e]) W:=by
  intro e W e2 N A h h0 ho hle;have hE:Bd.stE s a len o=e:=by
   unfold Bd.stE;rw[h,if_pos h0]
  rw[hE] at hpan;exact hpan h0 _ N W _ ho.front hle
 refine o_obb o hat.keys.one hat.kids.one ho fun b4 w1 ho=>?_;refine o_oba ho fun b6 w2 ho=>?_;have ho:OwnS S0 w w2 [obE b6 ob0 nilS nilS,obE b4 o vk vc,brE b s a,.mem M]:=ho;have hst:=Bd.stream.eq_1 s a len o;refine c_lend ho 2 rfl (bline_ret b s a w2 ha (by omega) (ho.at_ 2 rfl)) ?_ fun e2 w3 hn ho=>?_
 rotate_left
 ·rw[if_pos hn] at hst;exact fail (A:=[_,_]) hst hn ho M.le_refl
 rintro _ _ w3 hl ⟨rfl,rfl⟩ ho;rw[if_neg (by simp[hl])] at hst;have hlm:=(Bd.line_more [] ha hl).2;have ho:OwnS S0 w w3 [obE b6 ob0 nilS nilS,obE b4 o vk vc,brE b s (Bd.line s a).1,.mem M]:=ho;generalize (Bd.line s a).1=d at *;refine join fun J hJ=>?_;have go:∀{W:World} {N:Mem} {n:Int},OwnS S0 w W [obE b6 ob0 nilS nilS,obE b4 o vk vc,brE b s d,.mem N]→M.le N→Bd.size o len=(n,0)→0≤n→J [.int .i64 n] W:=by
  intro W N n ho hle hsz hn0;refine hJ _ _ fun _=>?_;simp only[gd];rw[hsz] at hst;rw[if_neg (by simp)] at hst;simp only at hst;unfold S_body_reader_stream_0;simp only[rs];refine c_bneed (fun h=>?_) fun h=>?_
  rotate_left
  ·have h1:1048576 < n:=by have:=of_decide_eq_false h;omega
   rw[if_pos h1] at hst;exact fail (A:=[_,_]) hst (by decide) ho hle
  have h1:n≤1048576:=of_decide_eq_true h;rw[if_neg (by omega)] at hst;refine quiet ?_;refine q_do _ (fun _=>run_nil) (q_do _ (fun _=>run_fa fbr0) (q_at _ (fun _ hb=>br_s ((ho.grow hb).at_ 2 rfl)) ?_));refine q_do _ (fun _=>run_len Tryz.underlying9) ?_;refine q_do _ (fun _=>run_nil) (q_do _ (fun _=>run_fa fbr1) (q_at _ (fun _ hb=>br_a ((ho.grow hb).at_ 2 rfl)) ?_));refine q_do (.int .i64 ((s.length:Int) - d)) (fun _=>by rw[r_sub,wrap64_id (by omega) (by omega)]) ?_;refine q_do (.bool (decide (n≤(s.length:Int) - d))) (fun _=>r_leqI) ?_;intro w4 hb;have ho:=ho.grow hb;refine c_bneed (fun h=>?_) fun h=>?_
  rotate_left
  ·have h2:(s.length:Int) - d < n:=by have:=of_decide_eq_false h;omega
   rw[if_pos h2] at hst;exact fail (A:=[_,_]) hst (by decide) ho hle
  have h2:n≤(s.length:Int) - d:=of_decide_eq_true h;rw[if_neg (by omega)] at hst;refine quiet ?_;refine q_do _ (fun _=>run_nil) (q_do _ (fun _=>run_fa fbr0) (q_at _ (fun _ hb=>br_s ((ho.grow hb).at_ 2 rfl)) ?_));refine q_do _ (fun _=>run_nil) (q_do _ (fun _=>run_fa fbr1) (q_at _ (fun _ hb=>br_a ((ho.grow hb).at_ 2 rfl)) ?_));refine q_do _ (fun _=>run_nil) (q_do _ (fun _=>run_fa fbr1) (q_at _ (fun _ hb=>br_a ((ho.grow hb).at_ 2 rfl)) ?_));refine q_do (.int .i64 ((d:Int)+n)) (fun _=>by rw[r_add,wrap64_id (by omega) (by omega)]) ?_;refine q_do (.string ⟨((s.drop d).take n.toNat).toArray⟩) (fun _=>by
   have:=run_s_slice (P:=prog) (w:=‹World›) (T:=9) (a:=s) (k:=.i64) (k':=.i64) (lo:=(d:Int)) (hi:=(d:Int)+n) Tryz.underlying9 (by omega) (by omega) (by omega);rw[show (d:Int).toNat=d by omega,show ((d:Int)+n).toNat - d=n.toNat by omega] at this;exact this) ?_
  intro w5 hb;have ho:=ho.grow hb
  try simp only[rs]
  rw[fa_br1];refine do_eq (br_a (ho.at_ 2 rfl)) |>.mpr ?_;simp only[rs];rw[wrap64_id (by omega) (by omega),fa_br1];refine br_put (a':=(d:Int)+n) 2 ho rfl fun w6 ho=>?_;have ho:OwnS S0 w w6 [obE b6 ob0 nilS nilS,obE b4 o vk vc,brE b s ((d:Int)+n),.mem N]:=ho;refine c_lend ho 2 rfl (bword_ret b s _ Bd.endstream w6 (by omega) (ho.at_ 2 rfl)) ?_ fun e2 w7 hn ho=>?_
  rotate_left
  ·rw[if_pos hn] at hst;exact fail (A:=[_,_]) hst hn ho hle
  rintro _ _ w7 hz ⟨rfl,rfl⟩ ho;rw[if_neg (by simp[hz])] at hst;have hE:Bd.stE s a len o=(Bd.word s (Bd.word s ((d:Int)+n) Bd.endstream).1 Bd.endobj).2:=by
   unfold Bd.stE;rw[hst];simp
  rw[hE,hst] at hret;rw[hE] at hpan;simp only at hret;refine c_lend ho 2 rfl (bword_ret b s _ Bd.endobj w7 (by omega) (ho.at_ 2 rfl)) ?_ fun e2 w8 hn ho=>?_
  rotate_left
  ·have ho:OwnS S0 w w8 ([obE b6 ob0 nilS nilS,obE b4 o vk vc]++([e2,.mem N]++[])):=ho;exact hpan hn _ N w8 _ ho.front hle
  rintro _ _ w8 hz2 ⟨rfl,rfl⟩ ho;rw[ob_v ho 1 rfl];refine c_mem ho 3 rfl (vstream_ret o _ ((s.drop d).take n.toNat) N w8 h7 hc (by rw[List.length_take];omega) hw (ho.hasM 3 rfl) (hv.le hle)) ?_;rintro _ N2 w9 hle2 ⟨u,rfl,hu⟩ ho;obtain⟨xk,xc,xcs,rfl,hx⟩:=hu.open;simp only[errV,ex];refine c_bmustO hx.keys.one hx.kids.one ho (fun _ w10 ho=>?_) fun h=>absurd rfl h;refine ob_put 0 hx.keys.one hx.kids.one ho rfl fun w11 ho=>?_;refine ret_v1 (rv_cell (ho.agg 0 rfl aggOb)) ?_;have ho:OwnS S0 w w11 ([obE b6 (Bd.strm o ((s.drop d).take n.toNat)) xk xc,obE b4 o vk vc]++([brE b s (Bd.word s (Bd.word s ((d:Int)+n) Bd.endstream).1 Bd.endobj).1,.mem N2]++[])):=ho;exact hret hz2 _ N2 w11 _ ho.front (hle.trans hle2) hx.ov
 simp only[rs];by_cases hneg:len < 0
 ·simp only[decide_eq_true hneg,i_t];rw[ob_v ho 1 rfl];have hsz:Bd.size o len=Bd.own o:=by unfold Bd.size;rw[if_neg (by omega)]
  refine c_bown 3 (by omega) ho rfl hv (fun hz N w4 hle ho=>?_) fun hz N w4 hle ho=>?_
  ·have ho:OwnS S0 w w4 [obE b6 ob0 nilS nilS,obE b4 o vk vc,brE b s d,.mem N]:=ho;have hnn:=Bd.size_nn (o:=o) (len:=len) (by rw[hsz];exact hz);rw[hsz] at hnn;exact go ho hle (by rw[hsz,←hz]) hnn
  ·have ho:OwnS S0 w w4 [obE b6 ob0 nilS nilS,obE b4 o vk vc,brE b s d,.mem N]:=ho;rw[hsz,if_pos hz] at hst;exact fail (A:=[_,_]) hst hz ho hle
 ·simp only[decide_eq_false hneg,i_f];exact go ho M.le_refl (by unfold Bd.size;rw[if_pos (by omega)]) (by omega)
end
section
open Eng Go.RowKit
theorem bread1_plain:plainB prog 23=true:=by kernel_rfl
def itmR (r:It×Int×Int)(v:Value)(N:Mem):Prop:=∃vk vc,v=.tuple #[itV r.1 vk vc,.int .i64 r.2.1,.int .i64 r.2.2]∧OV N.A N.w (obV r.1.obj vk vc) r.1.obj
theorem bread_ret (s:List UInt8)(a len:Int)(M:Mem)(w:World)(hs:s.length≤20000)(hM:M.has w):RetM prog 9 #[.string ⟨s.toArray⟩,.int .i64 a,.int .i64 len] M w (itmR (Bd.read s a len)):=by
 refine retM_of hM fun K hK=>S_body_Read_ok ?_;unfold S_body_Read;refine o_ita (OwnS.memS hM) fun b6 w1 ho=>?_;refine o_new (fun b=>.pointer (some ⟨b,0,none⟩)) [.int .i64 0] 3 (fun _=>by kernel_rfl) ho fun b7 w2 ho=>?_;refine o_new (fun b=>.pointer (some ⟨b,0,none⟩)) [.int .i64 0] 30 (fun _=>by kernel_rfl) ho fun b8 w3 ho=>?_;have ho:OwnS M.A w w3 ([errE b8 0,ciE b7 0,itE b6 Dk.it0 nilS nilS]++[.mem M]):=ho;have ho:=ho.perm List.perm_append_comm;have ho:OwnS M.A w w3 [.mem M,errE b8 0,ciE b7 0,itE b6 Dk.it0 nilS nilS]:=ho;rw[m_func];refine⟨_,rfl,?_⟩;have fail:∀{W:World} {L:List Ent} {x y e:Int} {it:It} {vk vc:Value} {N:Mem},OwnS M.A w W (L++([.mem N,errE b8 x,ciE b7 y,itE b6 it vk vc]++[]))→M.le N→e≠0→Bd.read s a len=Bd.bad e →
   S_body_Read_p0 { target:=.fn (.func 23) #[.pointer (some ⟨b8,0,none⟩),.pointer (some ⟨b6,0,none⟩),.pointer (some ⟨b7,0,none⟩)],args:=#[]++#[] } (.pointer (some ⟨b6,0,none⟩)) (.pointer (some ⟨b7,0,none⟩)) (.pointer (some ⟨b8,0,none⟩)) K [upE e] W:=by
  intro W L x y e it vk vc N ho hle h0 hh;have ho:=ho.front;show pd prog _ K _ [upE e] W;unfold pd;refine leave_fn (by simp) bread1_plain (S_body_Read_1_dok (t0:=.pointer (some ⟨b8,0,none⟩)) (t1:=.pointer (some ⟨b6,0,none⟩)) (t2:=.pointer (some ⟨b7,0,none⟩)) ?_);simp only[S_body_Read_1,recV,recM,upE];refine c_bcaughtE (e:=e) ho 1 rfl fun w5 ho=>?_;have ho:OwnS M.A w w5 (.mem N::errE b8 e::ciE b7 y::itE b6 it vk vc::(L++[])):=ho;unfold S_body_Read_1_r;rw[l_cell nErr5 (ho.cell 1 rfl 0 rfl)];simp only[rs,decide_eq_true (show e≠0 from h0),i_t];rw[m_it0];refine it_put 3 rfl rfl ho rfl fun w6 ho=>?_;refine o_store 2 ho rfl (by kernel_rfl) rfl (by simp) fun w7 ho=>?_;refine ret_v3 (rv_cell (ho.agg 3 rfl aggIt)) (rv_cell (AtV.cell nInt5 (ho.cell 2 rfl 0 rfl))) (rv_cell (AtV.cell nErr5 (ho.cell 1 rfl 0 rfl))) (hK _ _ N _ 0 ho rfl hle ?_);rw[hh];exact⟨nilS,nilS,rfl,ob0_ov2⟩
 have hread:=Bd.read.eq_1 s a len;by_cases hr:0≤a∧a≤s.length
 case neg=>
  rw[if_pos (by omega)] at hread;refine c_bfrom ho (fun h=>absurd h hr) fun _=>fail (L:=[]) ho M.le_refl (by decide) hread
 refine c_bfrom ho (fun _ b w4 ho=>?_) fun h=>absurd hr h;have ho:OwnS M.A w w4 [brE b s a,.mem M,errE b8 0,ciE b7 0,itE b6 Dk.it0 nilS nilS]:=ho;simp only[rs];refine c_bneed (fun h=>?_) fun h=>?_
 rotate_left
 ·rw[if_pos (by have:=of_decide_eq_false h;omega)] at hread;exact fail (L:=[_]) ho M.le_refl (by decide) hread
 have hl1:len≥-1:=of_decide_eq_true h;rw[if_neg (by omega)] at hread;have hh:Bd.head s a=Bd.headG s a:=by unfold Bd.head;rw[if_neg (by omega)]
 refine c_lend ho 0 rfl (bhead_ret b s a w4 (by omega) (ho.at_ 0 rfl)) ?_ fun e2 w5 hn ho=>?_
 rotate_left
 ·rw[←hh] at hn ⊢;rw[if_pos hn] at hread;exact fail (L:=[_]) ho M.le_refl hn hread
 rintro _ _ w5 hz ⟨rfl,rfl⟩ ho;rw[←hh] at hz ho ⊢;rw[if_neg (by simp[hz])] at hread;have hhb:=Bd.head_bd hz;generalize Bd.head s a=hd at *;simp only[ex,fa_i0];refine o_store 4 ho rfl (by kernel_rfl) rfl (show 0 < 8 by omega) fun w6 ho=>?_;rw[fa_i1];refine o_store 4 ho rfl (by kernel_rfl) rfl (show 0+1 < 8 by omega) fun w7 ho=>?_;have ho:OwnS M.A w w7 [brE b s hd.t,.mem M,errE b8 0,ciE b7 0,itE b6 ⟨hd.num,hd.gen,Vl.ob0⟩ nilS nilS]:=ho;refine c_lent ho (bobject_ret b s hd.t M w7 (by omega) (ho.pair.at_ 0 rfl)) ?_ fun e2 w8 hn ho=>?_
 rotate_left
 ·rw[if_pos hn] at hread;exact fail (L:=[_]) ho M.le_refl hn hread
 rintro u N w8 hz2 hle hu ho;rw[if_neg (by simp[hz2])] at hread;have hck:=Bd.object_check hz2;have hwt:(Ps.object s hd.t).1.wt≤1000000000:=by
  unfold Ps.object at hz2 ⊢;split at hz2
  ·simp[Ps.bad] at hz2
  ·rename_i hb
   rw[if_neg hb];have h1:=Ps.obj_wt s 24 hd.t hz2;have h2:=Ps.obj_bd hz2;omega
 generalize Ps.object s hd.t=x at *;obtain⟨xk,xc,xcs,rfl,hx⟩:=hu.open;rw[fa_i2];refine it_putO 4 hx.keys.one hx.kids.one ho rfl fun w9 ho=>?_;have ho:OwnS M.A w w9 [brE b s x.2.1,.mem N,errE b8 0,ciE b7 0,itE b6 ⟨hd.num,hd.gen,x.1⟩ xk xc]:=ho;rw[fa_i2,fa_o0,it_k ho 4 rfl];simp only[rs];refine c_bneed (fun h=>?_) fun h=>?_
 rotate_left
 ·have h8:x.1.k=8:=by simpa using of_decide_eq_false h
  rw[if_pos h8] at hread;exact fail (L:=[_]) ho hle (by decide) hread
 have h8:x.1.k≠8:=of_decide_eq_true h;rw[if_neg h8] at hread;refine join fun J hJ=>?_;have fin:∀{W:World} {L:List Ent} {N':Mem} {it':It} {yk yc:Value} {t:Int},OwnS M.A w W (L++([brE b s t,.mem N',errE b8 0,ciE b7 0,itE b6 it' yk yc]++[]))→M.le N'→OV N'.A N'.w (obV it'.obj yk yc) it'.obj→Bd.read s a len=(it',t,0)→J [] W:=by
  intro W L N' it' yk yc t ho hle hov hR;refine hJ _ _ fun _=>?_;have ho:=ho.front;unfold S_body_Read_0;have ho:=ho.drew;refine⟨fun W=>(itE b6 it' yk yc).is W∧(brE b s t).is W,⟨ho.at_ 4 rfl,ho.at_ 0 rfl⟩,?_⟩;refine hd_do (itV it' yk yc) (fun W h=>run_it fun j u hj=>by rw[Nat.zero_add];exact cells_cell (T:=27) h.1 hj) ?_;refine hd_pure _ (fun _=>run_nil) (hd_pure _ (fun _=>run_fa fbr1) (hd_do _ (fun W h=>br_a h.2) ?_));refine it_put 4 hov.oneK hov.oneC ho rfl fun w' ho=>⟨⟨ho.at_ 4 rfl,ho.at_ 0 rfl⟩,?_⟩;refine o_store 3 ho rfl (by kernel_rfl) rfl (by simp) fun w' ho=>?_;refine o_store 2 ho rfl (by kernel_rfl) rfl (by simp) fun w' ho=>?_;refine leave_fn (by simp) bread1_plain (S_body_Read_1_dok (t0:=.pointer (some ⟨b8,0,none⟩)) (t1:=.pointer (some ⟨b6,0,none⟩)) (t2:=.pointer (some ⟨b7,0,none⟩)) ?_);simp only[S_body_Read_1,recV,recM];refine c_bcaughtN ?_;unfold S_body_Read_1_r;rw[l_cell nErr5 (ho.cell 2 rfl 0 rfl)];simp only[rs,show decide ((0:Int)≠0)=false by decide,i_f];refine ret_v3 (rv_cell (ho.agg 4 rfl aggIt)) (rv_cell (AtV.cell nInt5 (ho.cell 3 rfl 0 rfl))) (rv_cell (AtV.cell nErr5 (ho.cell 2 rfl 0 rfl))) (hK _ _ N' _ 1 ho rfl hle ?_);rw[hR];exact⟨yk,yc,rfl,hov⟩
 unfold Bd.body at hread;refine c_lend ho 0 rfl (bnext_ret b s x.2.1 w9 (by omega) (ho.at_ 0 rfl)) ?_ fun e2 w10 hn ho=>?_
 rotate_left
 ·have hw:∀wd,(Bd.word s x.2.1 wd).2=lacks s x.2.1:=by
   intro wd;unfold Bd.word lacks;unfold Has at hn;by_cases hz:(Lx.next s x.2.1).2≠0
   ·rw[if_pos hz,if_pos hz]
   ·rw[if_neg hz,if_neg hz,if_pos (by
     by_cases hk:(Lx.next s x.2.1).1.k=0
     ·exact hk
     ·exact absurd ⟨by omega,hk⟩ hn)]
  have hl0:lacks s x.2.1≠0:=lacks_pos;rw[if_neg (by rw[hw];exact fun h=>hl0 h.1),Bd.tail,if_pos (by rw[hw];exact hl0),hw] at hread;exact fail (L:=[_]) ho hle hl0 hread
 rintro _ _ w10 ⟨hz3,hk3⟩ ⟨rfl,rfl⟩ ho;have hbd:=Lx.next_bd hz3 hk3;have hw:∀wd,Bd.word s x.2.1 wd=if (Lx.next s x.2.1).1.k≠5∨(Lx.next s x.2.1).1.s≠wd then (0,3) else ((Lx.next s x.2.1).1.t,0):=by
  intro wd;unfold Bd.word;rw[if_neg (by simp[hz3]),if_neg hk3]
 generalize Lx.next s x.2.1=t1 at *
 refine o_tok ho fun b10 w11 ho=>?_;refine tk_put 0 ho rfl fun w12 ho=>?_;have ho:OwnS M.A w w12 [tokE b10 t1.1,brE b s t1.1.t,.mem N,errE b8 0,ciE b7 0,itE b6 ⟨hd.num,hd.gen,x.1⟩ xk xc]:=ho;have bad3:Bd.read s a len=Bd.bad 3→CallX prog 26 #[.bool false,.int .i64 3] w12 (S_body_Read_p0 { target:=.fn (.func 23) #[.pointer (some ⟨b8,0,none⟩),.pointer (some ⟨b6,0,none⟩),.pointer (some ⟨b7,0,none⟩)],args:=#[]++#[] } (.pointer (some ⟨b6,0,none⟩)) (.pointer (some ⟨b7,0,none⟩)) (.pointer (some ⟨b8,0,none⟩)) K) fun t35 w=>AtX [{ target:=.fn (.func 23) #[.pointer (some ⟨b8,0,none⟩),.pointer (some ⟨b6,0,none⟩),.pointer (some ⟨b7,0,none⟩)],args:=#[]++#[] }] [{ target:=.fn (.func 23) #[.pointer (some ⟨b8,0,none⟩),.pointer (some ⟨b6,0,none⟩),.pointer (some ⟨b7,0,none⟩)],args:=#[]++#[] }] (J [] w):=by
  intro h;exact c_bneed (fun h=>by cases h) fun _=>fail (L:=[_,_]) ho hle (by decide) h
 by_cases h5:t1.1.k=5
 case neg=>
  rw[if_neg (by rw[hw,if_pos (.inl h5)];simp),Bd.tail,if_pos (by rw[hw,if_pos (.inl h5)];decide),hw,if_pos (.inl h5)] at hread;simp only[rs,fa_t0,tk_k ho 0 rfl,decide_eq_false h5,g_un];exact bad3 hread
 by_cases he:t1.1.s=Bd.endobj
 ·have he':t1.1.s=[101,110,100,111,98,106]:=he;have hne:t1.1.s≠Bd.streamW:=by rw[he];decide
  have hwe:Bd.word s x.2.1 Bd.endobj=(t1.1.t,0):=by rw[hw,if_neg (by simp[h5,he])]
  rw[if_neg (by rw[hw,if_pos (.inr hne)];simp),Bd.tail,hwe,if_neg (by simp)] at hread;simp only[rs,fa_t0,tk_k ho 0 rfl,decide_eq_true h5,fa_t4',tk_s ho 0 rfl,decide_eq_true he'];exact⟨rfl,fin (L:=[_]) ho hle hx.ov hread⟩
 have he':¬t1.1.s=[101,110,100,111,98,106]:=he;by_cases hsw:t1.1.s=Bd.streamW
 case neg=>
  have hsw':¬t1.1.s=[115,116,114,101,97,109]:=hsw;rw[if_neg (by rw[hw,if_pos (.inr hsw)];simp),Bd.tail,if_pos (by rw[hw,if_pos (.inr he)];decide),hw,if_pos (.inr he)] at hread;simp only[rs,fa_t0,tk_k ho 0 rfl,decide_eq_true h5,fa_t4',tk_s ho 0 rfl,decide_eq_false he',decide_eq_false hsw',g_un];exact bad3 hread
 have hsw':t1.1.s=[115,116,114,101,97,109]:=hsw;by_cases h7:x.1.k=7
 case neg=>
  rw[if_neg (fun h=>h7 h.2),Bd.tail,if_pos (by rw[hw,if_pos (.inr he)];decide),hw,if_pos (.inr he)] at hread;simp only[rs,fa_t0,tk_k ho 0 rfl,decide_eq_true h5,fa_t4',tk_s ho 0 rfl,decide_eq_false he',decide_eq_true hsw',fa_i2,fa_o0,it_k ho 5 rfl,decide_eq_false h7,g_un];exact bad3 hread
 have hws:Bd.word s x.2.1 Bd.streamW=(t1.1.t,0):=by rw[hw,if_neg (by simp[h5,hsw])]
 rw[if_pos ⟨by rw[hws],h7⟩,hws] at hread;simp only at hread;simp only[rs,fa_t0,tk_k ho 0 rfl,decide_eq_true h5,fa_t4',tk_s ho 0 rfl,decide_eq_false he',decide_eq_true hsw',fa_i2,fa_o0,it_k ho 5 rfl,decide_eq_true h7,it_obj ho 5 rfl];have ho:=ho.tail;obtain⟨n,hn⟩:∃n:Nat,t1.1.t=n:=⟨t1.1.t.toNat,by omega⟩;rw[hn] at hread ho;rw[Int.toNat_natCast] at hread;refine c_lent ho (bstream_ret b s n len x.1 _ N w12 (by omega) (by omega) h7 hck hwt hx.ov (ho.pair.at_ 0 rfl)) ?_ fun e2 w13 hE ho=>?_
 rotate_left
 ·refine fail (L:=[_]) ho hle hE ?_;rw[hread];unfold Bd.stE at hE ⊢;by_cases hs2:(Bd.stream s n len x.1).2.2≠0
  ·rw[if_pos hs2,if_pos hs2]
  ·rw[if_neg hs2] at hE;rw[if_neg hs2,if_neg hs2,Bd.tail,if_pos hE]
 rintro u N2 w13 hE hle2 hu ho;obtain⟨yk,yc,ycs,rfl,hy⟩:=hu.open;refine it_putO 4 hy.keys.one hy.kids.one ho rfl fun w14 ho=>?_;refine⟨rfl,fin (L:=[]) ho (hle.trans hle2) hy.ov ?_⟩;rw[hread];unfold Bd.stE at hE;have hs2:¬(Bd.stream s n len x.1).2.2≠0:=fun h=>by rw[if_pos h] at hE;exact h hE
 rw[if_neg hs2] at hE;rw[if_neg hs2,Bd.tail,if_neg (by simp[hE])]
end
end Go.Proofs.YtkejpieaafeblaaGreatDoor

namespace Go.Proofs.YtkejpieaafeblaaGreatDoor
section
open Eng
def S_foliantlaw08_Held (w:World)(K:Ending→World→Prop):Prop:=
 DoX prog (mAlloc 27) w (pk K) fun t0 w=>
 DoX prog (mBuild 25 #[(0,(.int .i64 9)),(3,(.string ⟨#[97,98]⟩))]) w (pk K) fun t1 w=>
 DoX prog (mBuild 27 #[(0,(.int .i64 4)),(1,(.int .i64 1)),(2,t1)]) w (pk K) fun t2 w=>
 DoX prog (mStore 27 t0 t2) w (pk K) fun _ w=>
 RetX prog [.cell t0 27] w K
theorem S_foliantlaw08_Held_eq (w:World)(K:Ending→World→Prop):wpX prog 3 [] [] none (bodyOf Tryz.f22) (topQ prog [.cell 0 27] K) (startX []) [] w=S_foliantlaw08_Held w K:=by kernel_rfl
theorem S_foliantlaw08_Held_ok {w:World}{K:Ending→World→Prop}(h:S_foliantlaw08_Held w K):Calls prog 22 #[] w K:=
 calls_of_wpX Tryz.func22 rfl rfl rfl rfl (Eq.mpr (S_foliantlaw08_Held_eq w K) h)
def S_foliantlaw08_lives (w:World)(K:Ending→World→Prop):Prop:=
 DoX prog (mBuild 25 #[(0,(.int .i64 2)),(1,(.int .i64 7))]) w (pk K) fun t51 w=>
 DoX prog (mBuild 27 #[(0,(.int .i64 3)),(2,t51)]) w (pk K) fun t52 w=>
 CallX prog 15 #[t52] w (pk K) fun t53 w=>
 DoX prog (mExt t53 0) w (pk K) fun t54 w=>
 DoX prog (mExt t53 1) w (pk K) fun t55 w=>
 CallX prog 22 #[] w (pk K) fun t57 w=>
 CallX prog 15 #[t57] w (pk K) fun t58 w=>
 DoX prog (mExt t58 0) w (pk K) fun t59 w=>
 DoX prog (mExt t58 1) w (pk K) fun t60 w=>
 CallX prog 9 #[(.string ⟨#[49,32,48,32,111,98,106,32,53,32,101,110,100,111,98,106]⟩),(.int .i64 0),(.int .i64 (-1))] w (pk K) fun t62 w=>
 DoX prog (mExt t62 0) w (pk K) fun t63 w=>
 DoX prog (mExt t62 1) w (pk K) fun t64 w=>
 DoX prog (mExt t62 2) w (pk K) fun t65 w=>
 DoX prog (mAlloc 27) w (pk K) fun t5 w=>
 DoX prog (mStore 27 t5 t63) w (pk K) fun _ w=>
 CallX prog 9 #[(.string ⟨#[49,32,48,32,111,98,106,32,50,32,48,32,82,32,101,110,100,111,98,106]⟩),(.int .i64 0),(.int .i64 (-1))] w (pk K) fun t67 w=>
 DoX prog (mExt t67 0) w (pk K) fun t68 w=>
 DoX prog (mExt t67 1) w (pk K) fun t69 w=>
 DoX prog (mExt t67 2) w (pk K) fun t70 w=>
 DoX prog (mAlloc 27) w (pk K) fun t8 w=>
 DoX prog (mStore 27 t8 t68) w (pk K) fun _ w=>
 CallX prog 9 #[(.string ⟨#[48,32,48,32,111,98,106,32,53,32,101,110,100,111,98,106]⟩),(.int .i64 0),(.int .i64 (-1))] w (pk K) fun t72 w=>
 DoX prog (mExt t72 0) w (pk K) fun t73 w=>
 DoX prog (mExt t72 1) w (pk K) fun t74 w=>
 DoX prog (mExt t72 2) w (pk K) fun t75 w=>
 DoX prog (mAlloc 27) w (pk K) fun t11 w=>
 DoX prog (mStore 27 t11 t73) w (pk K) fun _ w=>
 CallX prog 9 #[(.string ⟨#[49,32,48,32,111,98,106,32,53,32,101,110,100]⟩),(.int .i64 0),(.int .i64 (-1))] w (pk K) fun t77 w=>
 DoX prog (mExt t77 0) w (pk K) fun t78 w=>
 DoX prog (mExt t77 1) w (pk K) fun t79 w=>
 DoX prog (mExt t77 2) w (pk K) fun t80 w=>
 DoX prog (mAlloc 27) w (pk K) fun t14 w=>
 DoX prog (mStore 27 t14 t78) w (pk K) fun _ w=>
 CallX prog 9 #[(.string ⟨#[49,32,48,32,111,98,106,32,53]⟩),(.int .i64 0),(.int .i64 (-1))] w (pk K) fun t82 w=>
 DoX prog (mExt t82 0) w (pk K) fun t83 w=>
 DoX prog (mExt t82 1) w (pk K) fun t84 w=>
 DoX prog (mExt t82 2) w (pk K) fun t85 w=>
 DoX prog (mAlloc 27) w (pk K) fun t17 w=>
 DoX prog (mStore 27 t17 t83) w (pk K) fun _ w=>
 CallX prog 9 #[t59,(.int .i64 0),(.int .i64 2)] w (pk K) fun t88 w=>
 DoX prog (mExt t88 0) w (pk K) fun t89 w=>
 DoX prog (mExt t88 1) w (pk K) fun t90 w=>
 DoX prog (mExt t88 2) w (pk K) fun t91 w=>
 DoX prog (mAlloc 27) w (pk K) fun t20 w=>
 DoX prog (mStore 27 t20 t89) w (pk K) fun _ w=>
 CallX prog 9 #[(.string ⟨#[49,32,48,32,111,98,106,60,60,47,76,101,110,103,116,104,32,57,32,48,32,82,62,62,115,116,114,101,97,109,13,10,97,98,99,32,101,110,100,115,116,114,101,97,109,32,101,110,100,111,98,106]⟩),(.int .i64 0),(.int .i64 3)] w (pk K) fun t93 w=>
 DoX prog (mExt t93 0) w (pk K) fun t94 w=>
 DoX prog (mExt t93 1) w (pk K) fun t95 w=>
 DoX prog (mExt t93 2) w (pk K) fun t96 w=>
 DoX prog (mAlloc 27) w (pk K) fun t23 w=>
 DoX prog (mStore 27 t23 t94) w (pk K) fun _ w=>
 CallX prog 9 #[(.string ⟨#[49,32,48,32,111,98,106,60,60,47,76,101,110,103,116,104,32,57,32,48,32,82,62,62,115,116,114,101,97,109,13,10,97,98,99,32,101,110,100,115,116,114,101,97,109,32,101,110,100,111,98,106]⟩),(.int .i64 0),(.int .i64 (-1))] w (pk K) fun t98 w=>
 DoX prog (mExt t98 0) w (pk K) fun t99 w=>
 DoX prog (mExt t98 1) w (pk K) fun t100 w=>
 DoX prog (mExt t98 2) w (pk K) fun t101 w=>
 DoX prog (mAlloc 27) w (pk K) fun t26 w=>
 DoX prog (mStore 27 t26 t99) w (pk K) fun _ w=>
 CallX prog 9 #[(.string ⟨#[49,32,48,32,111,98,106,60,60,62,62,115,116,114,101,97,109,10,97,98,99,32,101,110,100,115,116,114,101,97,109,32,101,110,100,111,98,106]⟩),(.int .i64 0),(.int .i64 (-1))] w (pk K) fun t103 w=>
 DoX prog (mExt t103 0) w (pk K) fun t104 w=>
 DoX prog (mExt t103 1) w (pk K) fun t105 w=>
 DoX prog (mExt t103 2) w (pk K) fun t106 w=>
 DoX prog (mAlloc 27) w (pk K) fun t29 w=>
 DoX prog (mStore 27 t29 t104) w (pk K) fun _ w=>
 CallX prog 9 #[(.string ⟨#[49,32,48,32,111,98,106,60,60,47,76,101,110,103,116,104,32,57,48,48,62,62,115,116,114,101,97,109,10,97,98,99,32,101,110,100,115,116,114,101,97,109,32,101,110,100,111,98,106]⟩),(.int .i64 0),(.int .i64 (-1))] w (pk K) fun t108 w=>
 DoX prog (mExt t108 0) w (pk K) fun t109 w=>
 DoX prog (mExt t108 1) w (pk K) fun t110 w=>
 DoX prog (mExt t108 2) w (pk K) fun t111 w=>
 DoX prog (mAlloc 27) w (pk K) fun t32 w=>
 DoX prog (mStore 27 t32 t109) w (pk K) fun _ w=>
 CallX prog 9 #[(.string ⟨#[49,32,48,32,111,98,106,60,60,47,76,101,110,103,116,104,32,51,62,62,115,116,114,101,97,109,32,97,98,99,32,101,110,100,115,116,114,101,97,109,32,101,110,100,111,98,106]⟩),(.int .i64 0),(.int .i64 (-1))] w (pk K) fun t113 w=>
 DoX prog (mExt t113 0) w (pk K) fun t114 w=>
 DoX prog (mExt t113 1) w (pk K) fun t115 w=>
 DoX prog (mExt t113 2) w (pk K) fun t116 w=>
 DoX prog (mAlloc 27) w (pk K) fun t35 w=>
 DoX prog (mStore 27 t35 t114) w (pk K) fun _ w=>
 CallX prog 11 #[(.string ⟨#[49,32,48,32,111,98,106,60,60,47,76,101,110,103,116,104,32,57,32,48,32,82,62,62,115,116,114,101,97,109]⟩),(.int .i64 0)] w (pk K) fun t118 w=>
 DoX prog (mExt t118 0) w (pk K) fun t119 w=>
 DoX prog (mExt t118 1) w (pk K) fun t120 w=>
 DoX prog (mAlloc 25) w (pk K) fun t38 w=>
 DoX prog (mStore 25 t38 t119) w (pk K) fun _ w=>
 CallX prog 11 #[(.string ⟨#[49,32,48,32,111,98,106,60,60,47,76,101,110,103,116,104,32,57,62,62,101,110,100,111,98,106]⟩),(.int .i64 0)] w (pk K) fun t122 w=>
 DoX prog (mExt t122 0) w (pk K) fun t123 w=>
 DoX prog (mExt t122 1) w (pk K) fun t124 w=>
 DoX prog (mAlloc 25) w (pk K) fun t40 w=>
 DoX prog (mStore 25 t40 t123) w (pk K) fun _ w=>
 CallX prog 13 #[(.string ⟨#[37,10,49,50,32,51,32,111,98,106,32,120]⟩),(.int .i64 0)] w (pk K) fun t126 w=>
 DoX prog (mExt t126 0) w (pk K) fun t127 w=>
 DoX prog (mExt t126 1) w (pk K) fun t128 w=>
 DoX prog (mExt t126 2) w (pk K) fun t129 w=>
 DoX prog (mExt t126 3) w (pk K) fun t130 w=>
 CallX prog 13 #[(.string ⟨#[]⟩),(.int .i64 1)] w (pk K) fun t132 w=>
 DoX prog (mExt t132 0) w (pk K) fun t133 w=>
 DoX prog (mExt t132 1) w (pk K) fun t134 w=>
 DoX prog (mExt t132 2) w (pk K) fun t135 w=>
 DoX prog (mExt t132 3) w (pk K) fun t136 w=>
 DoX prog (mEq .neq 9 (.tmp 137) (.const (.string ⟨#[51,32,48,32,111,98,106,10,55,10,101,110,100,111,98,106,10]⟩)) t54 (.string ⟨#[51,32,48,32,111,98,106,10,55,10,101,110,100,111,98,106,10]⟩)) w (pk K) fun t138 w=>
 GDo t138 false (fun E=>E t55 w) w fun t140 w=>
 GDo t138 false (fun E=>DoX prog (mEq .neq 30 (.tmp 140) (.const (.int .i64 0)) t140 (.int .i64 0)) w (pk K) E) w fun t141 w=>
 DoX prog (mPick t138 (.bool true) t141) w (pk K) fun t142 w=>
 GDo t142 false (fun E=>E t59 w) w fun t144 w=>
 GDo t142 false (fun E=>DoX prog (mEq .neq 9 (.tmp 144) (.const (.string ⟨#[52,32,49,32,111,98,106,10,60,60,47,76,101,110,103,116,104,32,50,62,62,10,115,116,114,101,97,109,10,97,98,10,101,110,100,115,116,114,101,97,109,10,101,110,100,111,98,106,10]⟩)) t144 (.string ⟨#[52,32,49,32,111,98,106,10,60,60,47,76,101,110,103,116,104,32,50,62,62,10,115,116,114,101,97,109,10,97,98,10,101,110,100,115,116,114,101,97,109,10,101,110,100,111,98,106,10]⟩)) w (pk K) E) w fun t145 w=>
 DoX prog (mPick t142 (.bool true) t145) w (pk K) fun t146 w=>
 GDo t146 false (fun E=>E t60 w) w fun t148 w=>
 GDo t146 false (fun E=>DoX prog (mEq .neq 30 (.tmp 148) (.const (.int .i64 0)) t148 (.int .i64 0)) w (pk K) E) w fun t149 w=>
 DoX prog (mPick t146 (.bool true) t149) w (pk K) fun t150 w=>
 GDo t150 false (fun E=>DoX prog (mFA 27 t5 0) w (pk K) E) w fun t152 w=>
 GDo t150 false (fun E=>DoX prog (mLoad 3 t152) w (pk K) E) w fun t153 w=>
 GDo t150 false (fun E=>DoX prog (mEq .neq 3 (.tmp 153) (.const (.int .i64 1)) t153 (.int .i64 1)) w (pk K) E) w fun t154 w=>
 DoX prog (mPick t150 (.bool true) t154) w (pk K) fun t155 w=>
 GDo t155 false (fun E=>DoX prog (mFA 27 t5 2) w (pk K) E) w fun t157 w=>
 GDo t155 false (fun E=>DoX prog (mFA 25 t157 1) w (pk K) E) w fun t158 w=>
 GDo t155 false (fun E=>DoX prog (mLoad 2 t158) w (pk K) E) w fun t159 w=>
 GDo t155 false (fun E=>DoX prog (mEq .neq 2 (.tmp 159) (.const (.int .i64 5)) t159 (.int .i64 5)) w (pk K) E) w fun t160 w=>
 DoX prog (mPick t155 (.bool true) t160) w (pk K) fun t161 w=>
 GDo t161 false (fun E=>E t64 w) w fun t163 w=>
 GDo t161 false (fun E=>DoX prog (mEq .neq 3 (.tmp 163) (.const (.int .i64 16)) t163 (.int .i64 16)) w (pk K) E) w fun t164 w=>
 DoX prog (mPick t161 (.bool true) t164) w (pk K) fun t165 w=>
 GDo t165 false (fun E=>E t65 w) w fun t167 w=>
 GDo t165 false (fun E=>DoX prog (mEq .neq 30 (.tmp 167) (.const (.int .i64 0)) t167 (.int .i64 0)) w (pk K) E) w fun t168 w=>
 DoX prog (mPick t165 (.bool true) t168) w (pk K) fun t169 w=>
 GDo t169 false (fun E=>E t70 w) w fun t171 w=>
 GDo t169 false (fun E=>DoX prog (mEq .neq 30 (.tmp 171) (.const (.int .i64 10)) t171 (.int .i64 10)) w (pk K) E) w fun t172 w=>
 DoX prog (mPick t169 (.bool true) t172) w (pk K) fun t173 w=>
 GDo t173 false (fun E=>E t75 w) w fun t175 w=>
 GDo t173 false (fun E=>DoX prog (mEq .neq 30 (.tmp 175) (.const (.int .i64 2)) t175 (.int .i64 2)) w (pk K) E) w fun t176 w=>
 DoX prog (mPick t173 (.bool true) t176) w (pk K) fun t177 w=>
 GDo t177 false (fun E=>E t80 w) w fun t179 w=>
 GDo t177 false (fun E=>DoX prog (mEq .neq 30 (.tmp 179) (.const (.int .i64 3)) t179 (.int .i64 3)) w (pk K) E) w fun t180 w=>
 DoX prog (mPick t177 (.bool true) t180) w (pk K) fun t181 w=>
 GDo t181 false (fun E=>E t85 w) w fun t183 w=>
 GDo t181 false (fun E=>DoX prog (mEq .neq 30 (.tmp 183) (.const (.int .i64 4)) t183 (.int .i64 4)) w (pk K) E) w fun t184 w=>
 DoX prog (mPick t181 (.bool true) t184) w (pk K) fun t185 w=>
 IfX t185 (K (.returned (.bool false)) w) (QuietX w (fun C1=>
 QDo prog C1 (mFA 27 t20 0) fun t186=>
 QDo prog C1 (mLoad 3 t186) fun t187=>
 QDo prog C1 (mEq .neq 3 (.tmp 187) (.const (.int .i64 4)) t187 (.int .i64 4)) fun t188=>
 GQ t188 false (fun E=>QDo prog C1 (mFA 27 t20 1) E) fun t190=>
 GQ t188 false (fun E=>QDo prog C1 (mLoad 3 t190) E) fun t191=>
 GQ t188 false (fun E=>QDo prog C1 (mEq .neq 3 (.tmp 191) (.const (.int .i64 1)) t191 (.int .i64 1)) E) fun t192=>
 QDo prog C1 (mPick t188 (.bool true) t192) fun t193=>
 GQ t193 false (fun E=>QDo prog C1 (mFA 27 t20 2) E) fun t195=>
 GQ t193 false (fun E=>QDo prog C1 (mLoad 25 t195) E) fun t196=>
 GQ t193 false (fun E=>QCall prog C1 22 #[] E) fun t197=>
 GQ t193 false (fun E=>QDo prog C1 (mFld 27 t197 2) E) fun t198=>
 GQ t193 false (fun E=>QCall prog C1 17 #[t196,t198] E) fun t199=>
 GQ t193 false (fun E=>QDo prog C1 (mUn .not t199) E) fun t200=>
 QDo prog C1 (mPick t193 (.bool true) t200) fun t201=>
 GQ t201 false (fun E=>E t90) fun t203=>
 GQ t201 false (fun E=>E t59) fun t204=>
 GQ t201 false (fun E=>QDo prog C1 (mB .len #[9] 3 #[false] #[t204]) E) fun t205=>
 GQ t201 false (fun E=>QDo prog C1 (mBin .sub 3 t205 (.int .i64 1)) E) fun t206=>
 GQ t201 false (fun E=>QDo prog C1 (mEq .neq 3 (.tmp 203) (.tmp 206) t203 t206) E) fun t207=>
 QDo prog C1 (mPick t201 (.bool true) t207) fun t208=>
 GQ t208 false (fun E=>E t91) fun t210=>
 GQ t208 false (fun E=>QDo prog C1 (mEq .neq 30 (.tmp 210) (.const (.int .i64 0)) t210 (.int .i64 0)) E) fun t211=>
 QDo prog C1 (mPick t208 (.bool true) t211) fun t212=>
 GQ t212 false (fun E=>QDo prog C1 (mFA 27 t23 2) E) fun t214=>
 GQ t212 false (fun E=>QDo prog C1 (mFA 25 t214 3) E) fun t215=>
 GQ t212 false (fun E=>QDo prog C1 (mLoad 9 t215) E) fun t216=>
 GQ t212 false (fun E=>QDo prog C1 (mEq .neq 9 (.tmp 216) (.const (.string ⟨#[97,98,99]⟩)) t216 (.string ⟨#[97,98,99]⟩)) E) fun t217=>
 QDo prog C1 (mPick t212 (.bool true) t217) fun t218=>
 GQ t218 false (fun E=>QDo prog C1 (mFA 27 t23 2) E) fun t220=>
 GQ t218 false (fun E=>QDo prog C1 (mFA 25 t220 4) E) fun t221=>
 GQ t218 false (fun E=>QDo prog C1 (mLoad 22 t221) E) fun t222=>
 GQ t218 false (fun E=>QDo prog C1 (mB .len #[22] 3 #[false] #[t222]) E) fun t223=>
 GQ t218 false (fun E=>QDo prog C1 (mEq .neq 3 (.tmp 223) (.const (.int .i64 0)) t223 (.int .i64 0)) E) fun t224=>
 QDo prog C1 (mPick t218 (.bool true) t224) fun t225=>
 GQ t225 false (fun E=>E t96) fun t227=>
 GQ t225 false (fun E=>QDo prog C1 (mEq .neq 30 (.tmp 227) (.const (.int .i64 0)) t227 (.int .i64 0)) E) fun t228=>
 QDo prog C1 (mPick t225 (.bool true) t228) fun t229=>
 GQ t229 false (fun E=>E t101) fun t231=>
 GQ t229 false (fun E=>QDo prog C1 (mEq .neq 30 (.tmp 231) (.const (.int .i64 10)) t231 (.int .i64 10)) E) fun t232=>
 QDo prog C1 (mPick t229 (.bool true) t232) fun t233=>
 GQ t233 false (fun E=>E t106) fun t235=>
 GQ t233 false (fun E=>QDo prog C1 (mEq .neq 30 (.tmp 235) (.const (.int .i64 3)) t235 (.int .i64 3)) E) fun t236=>
 QDo prog C1 (mPick t233 (.bool true) t236) fun t237=>
 GQ t237 false (fun E=>E t111) fun t239=>
 GQ t237 false (fun E=>QDo prog C1 (mEq .neq 30 (.tmp 239) (.const (.int .i64 4)) t239 (.int .i64 4)) E) fun t240=>
 QDo prog C1 (mPick t237 (.bool true) t240) fun t241=>
 GQ t241 false (fun E=>E t116) fun t243=>
 GQ t241 false (fun E=>QDo prog C1 (mEq .neq 30 (.tmp 243) (.const (.int .i64 3)) t243 (.int .i64 3)) E) fun t244=>
 QDo prog C1 (mPick t241 (.bool true) t244) fun t245=>
 ∀w,C1 w →
 IfX t245 (K (.returned (.bool false)) w) (DoX prog (mFA 25 t38 0) w (pk K) fun t246 w=>
 DoX prog (mLoad 3 t246) w (pk K) fun t247 w=>
 DoX prog (mEq .eql 3 (.tmp 247) (.const (.int .i64 8)) t247 (.int .i64 8)) w (pk K) fun t248 w=>
 GDo t248 true (fun E=>DoX prog (mFA 25 t38 1) w (pk K) E) w fun t250 w=>
 GDo t248 true (fun E=>DoX prog (mLoad 2 t250) w (pk K) E) w fun t251 w=>
 GDo t248 true (fun E=>DoX prog (mEq .eql 2 (.tmp 251) (.const (.int .i64 9)) t251 (.int .i64 9)) w (pk K) E) w fun t252 w=>
 DoX prog (mPick t248 t252 (.bool false)) w (pk K) fun t253 w=>
 GDo t253 true (fun E=>E t120 w) w fun t255 w=>
 GDo t253 true (fun E=>DoX prog (mEq .eql 30 (.tmp 255) (.const (.int .i64 0)) t255 (.int .i64 0)) w (pk K) E) w fun t256 w=>
 DoX prog (mPick t253 t256 (.bool false)) w (pk K) fun t257 w=>
 GDo t257 true (fun E=>DoX prog (mFA 25 t40 0) w (pk K) E) w fun t259 w=>
 GDo t257 true (fun E=>DoX prog (mLoad 3 t259) w (pk K) E) w fun t260 w=>
 GDo t257 true (fun E=>DoX prog (mEq .eql 3 (.tmp 260) (.const (.int .i64 0)) t260 (.int .i64 0)) w (pk K) E) w fun t261 w=>
 DoX prog (mPick t257 t261 (.bool false)) w (pk K) fun t262 w=>
 GDo t262 true (fun E=>E t124 w) w fun t264 w=>
 GDo t262 true (fun E=>DoX prog (mEq .eql 30 (.tmp 264) (.const (.int .i64 0)) t264 (.int .i64 0)) w (pk K) E) w fun t265 w=>
 DoX prog (mPick t262 t265 (.bool false)) w (pk K) fun t266 w=>
 GDo t266 true (fun E=>E t127 w) w fun t268 w=>
 GDo t266 true (fun E=>DoX prog (mEq .eql 3 (.tmp 268) (.const (.int .i64 12)) t268 (.int .i64 12)) w (pk K) E) w fun t269 w=>
 DoX prog (mPick t266 t269 (.bool false)) w (pk K) fun t270 w=>
 GDo t270 true (fun E=>E t128 w) w fun t272 w=>
 GDo t270 true (fun E=>DoX prog (mEq .eql 3 (.tmp 272) (.const (.int .i64 3)) t272 (.int .i64 3)) w (pk K) E) w fun t273 w=>
 DoX prog (mPick t270 t273 (.bool false)) w (pk K) fun t274 w=>
 GDo t274 true (fun E=>E t129 w) w fun t276 w=>
 GDo t274 true (fun E=>DoX prog (mEq .eql 3 (.tmp 276) (.const (.int .i64 10)) t276 (.int .i64 10)) w (pk K) E) w fun t277 w=>
 DoX prog (mPick t274 t277 (.bool false)) w (pk K) fun t278 w=>
 GDo t278 true (fun E=>E t130 w) w fun t280 w=>
 GDo t278 true (fun E=>DoX prog (mEq .eql 30 (.tmp 280) (.const (.int .i64 0)) t280 (.int .i64 0)) w (pk K) E) w fun t281 w=>
 DoX prog (mPick t278 t281 (.bool false)) w (pk K) fun t282 w=>
 GDo t282 true (fun E=>E t136 w) w fun t284 w=>
 GDo t282 true (fun E=>DoX prog (mEq .eql 30 (.tmp 284) (.const (.int .i64 1)) t284 (.int .i64 1)) w (pk K) E) w fun t285 w=>
 DoX prog (mPick t282 t285 (.bool false)) w (pk K) fun t286 w=>
 GDo t286 true (fun E=>CallX prog 22 #[] w (pk K) E) w fun t288 w=>
 GDo t286 true (fun E=>CallX prog 18 #[t288] w (pk K) E) w fun t289 w=>
 GDo t286 true (fun E=>DoX prog (mEq .eql 30 (.tmp 289) (.const (.int .i64 0)) t289 (.int .i64 0)) w (pk K) E) w fun t290 w=>
 DoX prog (mPick t286 t290 (.bool false)) w (pk K) fun t291 w=>
 GDo t291 true (fun E=>DoX prog (mBuild 25 #[(0,(.int .i64 8)),(1,(.int .i64 1))]) w (pk K) E) w fun t293 w=>
 GDo t291 true (fun E=>DoX prog (mBuild 27 #[(0,(.int .i64 1)),(2,t293)]) w (pk K) E) w fun t294 w=>
 GDo t291 true (fun E=>CallX prog 18 #[t294] w (pk K) E) w fun t295 w=>
 GDo t291 true (fun E=>DoX prog (mEq .eql 30 (.tmp 295) (.const (.int .i64 10)) t295 (.int .i64 10)) w (pk K) E) w fun t296 w=>
 DoX prog (mPick t291 t296 (.bool false)) w (pk K) fun t297 w=>
 K (.returned t297) w)))
theorem S_foliantlaw08_lives_eq (w:World)(K:Ending→World→Prop):wpX prog 298 [] [] none (bodyOf Tryz.f8) (topQ prog [.tmp 0] K) (startX []) [] w=S_foliantlaw08_lives w K:=by kernel_rfl
theorem S_foliantlaw08_lives_ok {w:World}{K:Ending→World→Prop}(h:S_foliantlaw08_lives w K):Calls prog 8 #[] w K:=
 calls_of_wpX Tryz.func8 rfl rfl rfl rfl (Eq.mpr (S_foliantlaw08_lives_eq w K) h)
def S_foliantlaw08_may (t0:Value)(w:World)(K:Ending→World→Prop):Prop:=
 DoX prog (mBox 27 t0) w (pk K) fun t1 w=>
 DoX prog (mFA 27 t1 2) w (pk K) fun t6 w=>
 DoX prog (mLoad 25 t6) w (pk K) fun t7 w=>
 CallX prog 7 #[t7] w (pk K) fun t8 w=>
 DoX prog (mBin .gtr 3 t8 (.int .i64 300)) w (pk K) fun t9 w=>
 GDo t9 false (fun E=>DoX prog (mFA 27 t1 2) w (pk K) E) w fun t11 w=>
 GDo t9 false (fun E=>DoX prog (mFA 25 t11 3) w (pk K) E) w fun t12 w=>
 GDo t9 false (fun E=>DoX prog (mLoad 9 t12) w (pk K) E) w fun t13 w=>
 GDo t9 false (fun E=>DoX prog (mB .len #[9] 3 #[false] #[t13]) w (pk K) E) w fun t14 w=>
 GDo t9 false (fun E=>DoX prog (mBin .gtr 3 t14 (.int .i64 2000)) w (pk K) E) w fun t15 w=>
 DoX prog (mPick t9 (.bool true) t15) w (pk K) fun t16 w=>
 IfX t16 (K (.returned (.tuple #[(.string ⟨#[]⟩),(.bool false)])) w) (DoX prog (mLoad 27 t1) w (pk K) fun t18 w=>
 CallX prog 15 #[t18] w (pk K) fun t19 w=>
 DoX prog (mExt t19 0) w (pk K) fun t20 w=>
 DoX prog (mExt t19 1) w (pk K) fun t21 w=>
 DoX prog (mEq .eql 30 (.tmp 23) (.const (.int .i64 0)) t21 (.int .i64 0)) w (pk K) fun t24 w=>
 GDo t24 true (fun E=>E t20 w) w fun t26 w=>
 GDo t24 true (fun E=>DoX prog (mB .len #[9] 3 #[false] #[t26]) w (pk K) E) w fun t27 w=>
 GDo t24 true (fun E=>DoX prog (mBin .leq 3 t27 (.int .i64 6000)) w (pk K) E) w fun t28 w=>
 DoX prog (mPick t24 t28 (.bool false)) w (pk K) fun t29 w=>
 K (.returned (.tuple #[t20,t29])) w)
theorem S_foliantlaw08_may_eq (t0:Value)(w:World)(K:Ending→World→Prop):wpX prog 30 [] [] none (bodyOf Tryz.f20) (topQ prog [.tmp 2,.tmp 3] K) (startX [t0]) [] w=S_foliantlaw08_may t0 w K:=by kernel_rfl
theorem S_foliantlaw08_may_ok {t0:Value}{w:World}{K:Ending→World→Prop}(h:S_foliantlaw08_may t0 w K):Calls prog 20 #[t0] w K:=
 calls_of_wpX Tryz.func20 rfl rfl rfl rfl (Eq.mpr (S_foliantlaw08_may_eq t0 w K) h)
def S_foliantlaw08_same (t0 t1:Value)(w:World)(K:Ending→World→Prop):Prop:=
 DoX prog (mBox 27 t0) w (pk K) fun t2 w=>
 DoX prog (mBox 27 t1) w (pk K) fun t3 w=>
 DoX prog (mFA 27 t2 0) w (pk K) fun t5 w=>
 DoX prog (mLoad 3 t5) w (pk K) fun t6 w=>
 DoX prog (mFA 27 t3 0) w (pk K) fun t7 w=>
 DoX prog (mLoad 3 t7) w (pk K) fun t8 w=>
 DoX prog (mEq .eql 3 (.tmp 6) (.tmp 8) t6 t8) w (pk K) fun t9 w=>
 GDo t9 true (fun E=>DoX prog (mFA 27 t2 1) w (pk K) E) w fun t11 w=>
 GDo t9 true (fun E=>DoX prog (mLoad 3 t11) w (pk K) E) w fun t12 w=>
 GDo t9 true (fun E=>DoX prog (mFA 27 t3 1) w (pk K) E) w fun t13 w=>
 GDo t9 true (fun E=>DoX prog (mLoad 3 t13) w (pk K) E) w fun t14 w=>
 GDo t9 true (fun E=>DoX prog (mEq .eql 3 (.tmp 12) (.tmp 14) t12 t14) w (pk K) E) w fun t15 w=>
 DoX prog (mPick t9 t15 (.bool false)) w (pk K) fun t16 w=>
 GDo t16 true (fun E=>DoX prog (mFA 27 t2 2) w (pk K) E) w fun t18 w=>
 GDo t16 true (fun E=>DoX prog (mLoad 25 t18) w (pk K) E) w fun t19 w=>
 GDo t16 true (fun E=>DoX prog (mFA 27 t3 2) w (pk K) E) w fun t20 w=>
 GDo t16 true (fun E=>DoX prog (mLoad 25 t20) w (pk K) E) w fun t21 w=>
 GDo t16 true (fun E=>CallX prog 17 #[t19,t21] w (pk K) E) w fun t22 w=>
 DoX prog (mPick t16 t22 (.bool false)) w (pk K) fun t23 w=>
 K (.returned t23) w
theorem S_foliantlaw08_same_eq (t0 t1:Value)(w:World)(K:Ending→World→Prop):wpX prog 24 [] [] none (bodyOf Tryz.f21) (topQ prog [.tmp 4] K) (startX [t0,t1]) [] w=S_foliantlaw08_same t0 t1 w K:=by kernel_rfl
theorem S_foliantlaw08_same_ok {t0 t1:Value}{w:World}{K:Ending→World→Prop}(h:S_foliantlaw08_same t0 t1 w K):Calls prog 21 #[t0,t1] w K:=
 calls_of_wpX Tryz.func21 rfl rfl rfl rfl (Eq.mpr (S_foliantlaw08_same_eq t0 t1 w K) h)
def S_foliantlaw08_BodyCut (t0 t1:Value)(w:World)(K:Ending→World→Prop):Prop:=
 DoX prog (mBox 27 t0) w (pk K) fun t2 w=>
 CallX prog 8 #[] w (pk K) fun t10 w=>
 DoX prog (mUn .not t10) w (pk K) fun t11 w=>
 IfX t11 (K (.returned (.bool false)) w) (DoX prog (mLoad 27 t2) w (pk K) fun t13 w=>
 CallX prog 20 #[t13] w (pk K) fun t14 w=>
 DoX prog (mExt t14 0) w (pk K) fun t15 w=>
 DoX prog (mExt t14 1) w (pk K) fun t16 w=>
 DoX prog (mUn .not t16) w (pk K) fun t18 w=>
 GDo t18 false (fun E=>E t1 w) w fun t20 w=>
 GDo t18 false (fun E=>DoX prog (mBin .lss 3 t20 (.int .i64 0)) w (pk K) E) w fun t21 w=>
 DoX prog (mPick t18 (.bool true) t21) w (pk K) fun t22 w=>
 GDo t22 false (fun E=>E t1 w) w fun t24 w=>
 GDo t22 false (fun E=>E t15 w) w fun t25 w=>
 GDo t22 false (fun E=>DoX prog (mB .len #[9] 3 #[false] #[t25]) w (pk K) E) w fun t26 w=>
 GDo t22 false (fun E=>DoX prog (mBin .sub 3 t26 (.int .i64 1)) w (pk K) E) w fun t27 w=>
 GDo t22 false (fun E=>DoX prog (mBin .geq 3 t24 t27) w (pk K) E) w fun t28 w=>
 DoX prog (mPick t22 (.bool true) t28) w (pk K) fun t29 w=>
 IfX t29 (K (.returned (.bool true)) w) (DoX prog (mSlice 9 t15 none (some t1) none) w (pk K) fun t33 w=>
 CallX prog 9 #[t33,(.int .i64 0),(.int .i64 (-1))] w (pk K) fun t34 w=>
 DoX prog (mExt t34 0) w (pk K) fun t35 w=>
 DoX prog (mExt t34 1) w (pk K) fun t36 w=>
 DoX prog (mExt t34 2) w (pk K) fun t37 w=>
 DoX prog (mAlloc 27) w (pk K) fun t7 w=>
 DoX prog (mStore 27 t7 t35) w (pk K) fun _ w=>
 DoX prog (mEq .neq 30 (.tmp 38) (.const (.int .i64 0)) t37 (.int .i64 0)) w (pk K) fun t39 w=>
 GDo t39 true (fun E=>E t36 w) w fun t41 w=>
 GDo t39 true (fun E=>DoX prog (mEq .eql 3 (.tmp 41) (.const (.int .i64 0)) t41 (.int .i64 0)) w (pk K) E) w fun t42 w=>
 DoX prog (mPick t39 t42 (.bool false)) w (pk K) fun t43 w=>
 GDo t43 true (fun E=>DoX prog (mLoad 27 t7) w (pk K) E) w fun t45 w=>
 GDo t43 true (fun E=>DoX prog (mBuild 27 #[]) w (pk K) E) w fun t46 w=>
 GDo t43 true (fun E=>CallX prog 21 #[t45,t46] w (pk K) E) w fun t47 w=>
 DoX prog (mPick t43 t47 (.bool false)) w (pk K) fun t48 w=>
 K (.returned t48) w))
theorem S_foliantlaw08_BodyCut_eq (t0 t1:Value)(w:World)(K:Ending→World→Prop):wpX prog 49 [] [] none (bodyOf Tryz.f5) (topQ prog [.tmp 4] K) (startX [t0,t1]) [] w=S_foliantlaw08_BodyCut t0 t1 w K:=by kernel_rfl
theorem S_foliantlaw08_BodyCut_ok {t0 t1:Value}{w:World}{K:Ending→World→Prop}(h:S_foliantlaw08_BodyCut t0 t1 w K):Calls prog 5 #[t0,t1] w K:=
 calls_of_wpX Tryz.func5 rfl rfl rfl rfl (Eq.mpr (S_foliantlaw08_BodyCut_eq t0 t1 w K) h)
end
section
open Eng Go.RowKit
theorem c_bmustI {w:World}{PK:PKT}{K:VWP}{S:Nat→Prop}{w0:World}{L:List Ent}{i:It}{vk vc:Value}{e:Int}(hk:vk.oneCell'=true)(hc:vc.oneCell'=true)(ho:OwnS S w0 w L)(kr:e=0→∀w',OwnS S w0 w' L→K (itV i vk vc) w')(kp:e≠0→∀w',OwnS S w0 w' L→PK [upE e] w'):CallX prog 42 #[itV i vk vc,.int .i64 e] w PK K:=by
 refine⟨S_body_must_foliant_api_Item_ok ?_⟩;unfold S_body_must_foliant_api_Item;refine o_itb i hk hc ho fun b w1 ho=>?_;refine o_ita ho fun b2 w2 ho=>?_;simp only[rs];refine c_bneed (fun h=>?_) fun h=>kp (of_decide_eq_false h) _ ho.tail.tail;rw[it_v ho 1 rfl];refine it_put 0 hk hc ho rfl fun w3 ho=>?_;exact ret_v1 (rv_cell (ho.agg 0 rfl aggIt)) (kr (of_decide_eq_true h) _ ho.tail.tail)
end
section
open Eng Go.RowKit
abbrev bsE (b:Nat)(s:List UInt8):Ent:=.cells b [.string ⟨s.toArray⟩] 9
theorem btext1_plain:plainB prog 41=true:=by kernel_rfl
theorem run_obKK {vk vc:Value}(hk:vk.oneCell'=true)(hc:vc.oneCell'=true)(o:Ob)(W:World):(mBuild 25 #[(0,.int .i64 7),(4,vk),(5,vc)]).run prog W=.ok (.value (obV (.mk 7 0 0 [] o.keys o.kids) vk vc)) W:=by
 cases vk<;>first|(cases hk;done)|skip
 all_goals cases vc<;>first|(cases hc;done)|kernel_rfl
theorem o_strb3 {S:Nat→Prop}{w0 w:World}{L:List Ent}{PK:PKT}{K:VWP}(s t u:List UInt8)(ho:OwnS S w0 w L)(k:∀b w',OwnS S w0 w' (.cells b (strsV [s,t,u]) 9::L)→K (.slice (some ⟨b,0,none⟩) 3 3) w') :
  DoX prog (mBuildS 22 3 #[(0,.string ⟨s.toArray⟩),(1,.string ⟨t.toArray⟩),(2,.string ⟨u.toArray⟩)]) w PK K:=
 o_new (fun b=>.slice (some ⟨b,0,none⟩) 3 3) (strsV [s,t,u]) 9 (fun _=>by kernel_rfl) ho k
theorem pNum_ok {n:Int}(h0:0≤n)(h1:n≤2147483647):Pl.pInt n=(Lib.itoa n,0):=by
 unfold Pl.pInt;rw[if_pos (by omega)]
def Bd.rest (i:It):List UInt8:=if i.obj.k=9 then Bd.streamW++Bd.nl++i.obj.s++Bd.nl++Bd.endstream++Bd.nl else []
def Bd.textO (i:It)(o:Ob):List UInt8×Int:=if (Wr.text o).2≠0 then ([],(Wr.text o).2) else (Bd.headT i++(Wr.text o).1++Bd.nl++Bd.rest i++Bd.endobj++Bd.nl,0)
theorem Bd.text_eq (i:It):Bd.text i=if Bd.check i≠0 then ([],Bd.check i) else if i.obj.k=9 then (if (Bd.dictOf i.obj).2≠0 then ([],(Bd.dictOf i.obj).2) else Bd.textO i (Bd.dictOf i.obj).1) else Bd.textO i i.obj:=by
 unfold Bd.text Bd.textO Bd.rest;by_cases h:i.obj.k=9
 ·simp only[h,if_true,List.append_assoc]
 ·simp only[h,if_false,List.append_nil]
theorem Bd.dict_wt (o:Ob):(Ob.mk 7 0 0 [] o.keys o.kids).wt≤o.wt:=by
 have e1:=Vl.wt_eq o;have e2:(Ob.mk 7 0 0 [] o.keys o.kids).wt=6+0+Pl.tot o.keys+Ob.wts o.kids:=Vl.wt_eq _;omega
theorem Bd.int_wt (n:Int):(Ob.mk 2 n 0 [] [] []).wt=6:=by
 have e3:(Ob.mk 2 n 0 [] [] []).wt=6+0+Pl.tot []+Ob.wts []:=Vl.wt_eq _;have e5:Pl.tot []=0:=rfl;have e6:Ob.wts []=0:=by simp[Ob.wts]
 omega
theorem Bd.dictOf_wt (o:Ob):(Bd.dictOf o).1.wt≤o.wt+100:=by
 have h:=Vl.set_wt (.mk 7 0 0 [] o.keys o.kids) Vl.lenK (.mk 2 o.s.length 0 [] [] []);have h1:=Bd.dict_wt o;have h2:=Bd.int_wt o.s.length;have e4:Vl.lenK.length=6:=rfl;unfold Bd.dictOf;omega
theorem btext_ret (i:It){vk vc:Value}(M:Mem)(w:World)(ht:Tb w)(hw:i.obj.wt≤50000000)(hM:M.has w)(hv:OV M.A M.w (obV i.obj vk vc) i.obj) :
  Ret prog 15 #[itV i vk vc] w (fun r w'=>r=txtV (Bd.text i)∧Below w.heap.size w w'):=by
 refine ret_of fun K hK=>S_body_Text_ok ?_;unfold S_body_Text;refine o_itb i hv.oneK hv.oneC (OwnS.memS hM) fun b1 w1 ho=>?_;refine o_new (fun b=>.pointer (some ⟨b,0,none⟩)) [.string ⟨#[]⟩] 9 (fun _=>by kernel_rfl) ho fun b2 w2 ho=>?_;refine o_new (fun b=>.pointer (some ⟨b,0,none⟩)) [.int .i64 0] 30 (fun _=>by kernel_rfl) ho fun b3 w3 ho=>?_;have ho:OwnS M.A w w3 ([errE b3 0,bsE b2 [],itE b1 i vk vc]++[.mem M]):=ho;have ho:=ho.perm List.perm_append_comm;have ho:OwnS M.A w w3 [.mem M,errE b3 0,bsE b2 [],itE b1 i vk vc]:=ho;rw[m_func];refine⟨_,rfl,?_⟩;have tb:∀{W:World} {L:List Ent} {N:Mem} (j:Nat),OwnS M.A w W L→L[j]?=some (.mem N)→M.le N→Tb W:=fun j ho hj hle=>ht.mono (ho.toGives j hj hle hM).below;have fail:∀{W:World} {L:List Ent} {x e:Int} {s:List UInt8} {N:Mem},OwnS M.A w W (L++([.mem N,errE b3 x,bsE b2 s,itE b1 i vk vc]++[]))→M.le N→e≠0→Bd.text i=([],e) →
   S_body_Text_p0 { target:=.fn (.func 41) #[.pointer (some ⟨b3,0,none⟩),.pointer (some ⟨b2,0,none⟩)],args:=#[]++#[] } (.pointer (some ⟨b2,0,none⟩)) (.pointer (some ⟨b3,0,none⟩)) K [upE e] W:=by
  intro W L x e s N ho hle h0 hh;have ho:=ho.front;show pd prog _ K _ [upE e] W;unfold pd;refine leave_fn (by simp) btext1_plain (S_body_Text_fn1_dok (t0:=.pointer (some ⟨b3,0,none⟩)) (t1:=.pointer (some ⟨b2,0,none⟩)) ?_);simp only[S_body_Text_fn1,recV,recM,upE];refine c_bcaughtE (e:=e) ho 1 rfl fun w5 ho=>?_;have ho:OwnS M.A w w5 (.mem N::errE b3 e::bsE b2 s::itE b1 i vk vc::(L++[])):=ho;unfold S_body_Text_fn1_r;rw[l_cell nErr5 (ho.cell 1 rfl 0 rfl)];simp only[rs,decide_eq_true (show e≠0 from h0),i_t];refine o_store 2 ho rfl (by kernel_rfl) rfl (by simp) fun w6 ho=>?_;refine ret_v2 (rv_cell (AtV.cell nStr5 (ho.cell 2 rfl 0 rfl))) (rv_cell (AtV.cell nErr5 (ho.cell 1 rfl 0 rfl))) (hK _ _ ⟨?_,(ho.toGives 0 rfl hle hM).below⟩);rw[hh];rfl
 have htx:=Bd.text_eq i;refine quietC (fun W=>OwnS M.A w W [.mem M,errE b3 0,bsE b2 [],itE b1 i vk vc]) ho.drew ?_;have hld:∀W,OwnS M.A w W [.mem M,errE b3 0,bsE b2 [],itE b1 i vk vc]→(mLoad 27 (.pointer (some ⟨b1,0,none⟩))).run prog W=.ok (.value (itV i vk vc)) W:=
  fun W h=>run_it fun j u hj=>by rw[Nat.zero_add];exact cells_cell (T:=27) (h.at_ 3 rfl) hj
 refine q_at _ hld (q_at _ hld (q_call (.int .i64 (Bd.check i)) (fun W h=>(bCheck_ret i W (by omega) (OV.inw (h.hasM 0 rfl) hv)).mono fun v w' r=>⟨r.1,h.grow r.2⟩) ?_));clear ho;intro w4 ho;have ho:OwnS M.A w w4 [.mem M,errE b3 0,bsE b2 [],itE b1 i vk vc]:=ho;refine c_bmustI hv.oneK hv.oneC ho (fun hc w5 ho=>?_) fun hc w5 ho=>fail (L:=[]) ho M.le_refl hc (by rw[htx,if_pos hc]);rw[if_neg (by simp[hc])] at htx;obtain⟨⟨n1,n2⟩,⟨n3,n4⟩,hvc,hk8⟩:=Bd.check_ok hc;refine o_new (fun b=>.pointer (some ⟨b,0,none⟩)) [.pointer none,.slice none 0 0] 78 (fun _=>by kernel_rfl) ho fun b4 w6 ho=>?_;have hB0:∃v0,OwnS M.A w w6 [Bld b4 v0 [],.mem M,errE b3 0,bsE b2 [],itE b1 i vk vc]:=⟨_,OwnS.closeB (l:=[]) (.inl rfl) roomy_nil (ho.nilRow 5 1).swap⟩;clear ho;obtain⟨v0,ho⟩:=hB0;have ho:=ho.drew;refine⟨fun W=>(itE b1 i vk vc).is W,ho.at_ 4 rfl,?_⟩;refine hd_pure _ (fun _=>run_fa fo_i0) (hd_do _ (fun W h=>run_load_cell nInt5 (cells_cell (T:=27) (cs:=itC i vk vc) (i:=0) h rfl)) ?_);refine hd_pure _ (fun _=>run_fa fo_i1) (hd_do _ (fun W h=>run_load_cell nInt5 (cells_cell (T:=27) (cs:=itC i vk vc) (i:=1) h rfl)) ?_);refine c_below ho (R:=fun v=>v=.tuple #[.string ⟨(Pl.pInt i.num).1.toArray⟩,.int .i64 (Pl.pInt i.num).2]) (pint_ret _ _ (tb 1 ho rfl M.le_refl)) ?_;rintro _ w7 rfl ho;rw[pNum_ok (by omega) (by omega)];refine⟨ho.at_ 4 rfl,?_⟩;refine hd_pure _ (fun _=>run_ext0) (hd_pure _ (fun _=>run_ext1) ?_);refine c_bmustS (fun _=>⟨ho.at_ 4 rfl,?_⟩) fun h=>absurd rfl h;refine c_below ho (R:=fun v=>v=.tuple #[.string ⟨(Pl.pInt i.gen).1.toArray⟩,.int .i64 (Pl.pInt i.gen).2]) (pint_ret _ _ (tb 1 ho rfl M.le_refl)) ?_;rintro _ w8 rfl ho;rw[pNum_ok (by omega) (by omega)];refine⟨ho.at_ 4 rfl,?_⟩;refine hd_pure _ (fun _=>run_ext0) (hd_pure _ (fun _=>run_ext1) ?_);refine c_bmustS (fun _=>⟨ho.at_ 4 rfl,?_⟩) fun h=>absurd rfl h;have hl1:=itoa_len i.num (by omega) (by omega);have hl2:=itoa_len i.gen (by omega) (by omega);refine o_strb3 (Lib.itoa i.num) (Lib.itoa i.gen) Bd.objW ho fun b5 w9 ho=>⟨ho.at_ 5 rfl,?_⟩;refine c_below ho (R:=fun v=>v=.string ⟨(Pl.join [Lib.itoa i.num,Lib.itoa i.gen,Bd.objW]).toArray⟩) (pjoin_ret [Lib.itoa i.num,Lib.itoa i.gen,Bd.objW] _ _ (ho.sl 0 rfl 1 3 3 rfl) (by
  have e3:Bd.objW.length=3:=rfl;simp only[Pl.tot,List.map_cons,List.map_nil,List.sum_cons,List.sum_nil,e3];omega)) ?_
 rintro _ w10 rfl ho;have hj:=Bd.head_join (i:=i) (by omega) (by omega);have hjl:(Pl.join [Lib.itoa i.num,Lib.itoa i.gen,Bd.objW]).length≤60:=by
  have e3:Bd.objW.length=3:=rfl;rw[Bd.join_head (by omega) (by omega)];simp only[List.length_append,List.length_cons,List.length_nil,e3];omega
 have hhl:(Bd.headT i).length≤61:=by
  rw[←hj];have e3:Bd.nl.length=1:=rfl;simp only[List.length_append,e3];omega
 refine⟨ho.at_ 5 rfl,?_⟩;refine hd_pure _ (fun _=>run_s_add (b:=[10]) (by simp only[List.length_cons,List.length_nil];omega)) ?_;rw[show Pl.join [Lib.itoa i.num,Lib.itoa i.gen,Bd.objW]++[10]=Bd.headT i from hj];refine c_turn 1 ho rfl (writeString_ret (ho.at_ 1 rfl) (by simp only[List.length_nil];omega)) ?_;rintro _ _ w11 ⟨_,v1,rfl⟩ ho;have ho:OwnS M.A w w11 [Bld b4 v1 (Bd.headT i),.mem M,errE b3 0,bsE b2 [],itE b1 i vk vc]:=ho.tail;refine⟨ho.at_ 4 rfl,?_⟩;rw[fa_i2,it_obj ho 4 rfl];refine o_oba ho fun b6 w12 ho=>?_;refine ob_put 0 hv.oneK hv.oneC ho rfl fun w13 ho=>?_;have ho:OwnS M.A w w13 [obE b6 i.obj vk vc,Bld b4 v1 (Bd.headT i),.mem M,errE b3 0,bsE b2 [],itE b1 i vk vc]:=ho;refine join fun J hJ=>?_;have hos:=Vl.wt_eq i.obj;have fin:∀{W:World} {o:Ob} {yk yc:Value} {N:Mem},OwnS M.A w W [obE b6 o yk yc,Bld b4 v1 (Bd.headT i),.mem N,errE b3 0,bsE b2 [],itE b1 i vk vc]→M.le N→OV N.A N.w (obV o yk yc) o→o.wt≤100000000→Bd.text i=Bd.textO i o→J [] W:=by
  intro W o yk yc N ho hle hov hwo hR;refine hJ _ _ fun _=>?_;unfold S_body_Text_0;rw[ob_v ho 0 rfl];refine c_below ho (R:=fun v=>v=txtV (Wr.text o)) (wtext7_ret o _ W (tb 2 ho rfl hle) (OV.inw (ho.hasM 2 rfl) hov) hwo) ?_;rintro _ w14 rfl ho;have hwl:=Wr.text_len o;unfold Bd.textO at hR;simp only[txtV,ex];refine c_bmustS (fun he=>?_) fun he=>fail (L:=[_,_]) ho hle he (by rw[hR,if_pos he]);rw[if_neg (by simp[he])] at hR;generalize (Wr.text o).1=t at *;have e1:∀{PK:PKT} {K:VWP} {T:TypeId} {W:World},DoX prog (mBin .add T (.string ⟨t.toArray⟩) (.string ⟨#[10]⟩)) W PK K=K (.string ⟨(t++Bd.nl).toArray⟩) W:=s_add (b:=Bd.nl) (by show t.length+1≤_;omega);rw[e1];have hnl:Bd.nl.length=1:=rfl;refine c_turn 1 ho rfl (writeString_ret (ho.at_ 1 rfl) (by simp only[List.length_append,hnl];omega)) ?_;rintro _ _ w15 ⟨_,v2,rfl⟩ ho;refine join fun J6 hJ6=>?_;have fin2:∀{W:World} {v3:Value},OwnS M.A w W [obE b6 o yk yc,Bld b4 v3 (Bd.headT i++(t++Bd.nl)++Bd.rest i),.mem N,errE b3 0,bsE b2 [],itE b1 i vk vc]→J6 [] W:=by
   intro W v3 ho;refine hJ6 _ _ fun _=>?_;unfold S_body_Text_1;have hrl:(Bd.rest i).length≤i.obj.s.length+40:=by
    have a1:Bd.streamW.length=6:=rfl;have a2:Bd.endstream.length=9:=rfl;unfold Bd.rest;split
    ·simp only[List.length_append,hnl,a1,a2];omega
    ·simp
   refine c_turn 1 ho rfl (writeString_ret (s:=Bd.endobj++Bd.nl) (ho.at_ 1 rfl) (by
    have a3:Bd.endobj.length=6:=rfl;simp only[List.length_append,hnl,a3];omega)) ?_
   rintro _ _ w16 ⟨_,v4,rfl⟩ ho;refine c_turn 1 ho rfl (bldString_ret (ho.at_ 1 rfl)) ?_;rintro _ _ w17 ⟨rfl,rfl⟩ ho;refine o_store 4 ho rfl (by kernel_rfl) rfl (by simp) fun w18 ho=>?_;refine o_store 3 ho rfl (by kernel_rfl) rfl (by simp) fun w19 ho=>?_;refine leave_fn (by simp) btext1_plain (S_body_Text_fn1_dok (t0:=.pointer (some ⟨b3,0,none⟩)) (t1:=.pointer (some ⟨b2,0,none⟩)) ?_);simp only[S_body_Text_fn1,recV,recM];refine c_bcaughtN ?_;unfold S_body_Text_fn1_r;rw[l_cell nErr5 (ho.cell 3 rfl 0 rfl)];simp only[rs,show decide ((0:Int)≠0)=false by decide,i_f];refine ret_v2 (rv_cell (AtV.cell nStr5 (ho.cell 4 rfl 0 rfl))) (rv_cell (AtV.cell nErr5 (ho.cell 3 rfl 0 rfl))) (hK _ _ ⟨?_,(ho.toGives 2 rfl hle hM).below⟩);rw[hR];show _=Value.tuple #[.string ⟨(Bd.headT i++t++Bd.nl++Bd.rest i++Bd.endobj++Bd.nl).toArray⟩,.int .i64 0];simp only[List.append_assoc]
  rw[fa_i2,fa_o0,it_k ho 5 rfl];by_cases h9:i.obj.k=9
  case neg=>
   simp only[rs,decide_eq_false h9,i_f];refine⟨rfl,fin2 (v3:=v2) ?_⟩;rw[Bd.rest,if_neg h9,List.append_nil];exact ho
  simp only[rs,decide_eq_true h9,i_t];rw[fa_i2,fa_o3];refine do_eq (run_load_cell nStr5 (ho.cell 5 rfl 5 rfl)) |>.mpr ?_;have e2:∀{PK:PKT} {K:VWP} {T:TypeId} {W:World},DoX prog (mBin .add T (.string ⟨#[115,116,114,101,97,109,10]⟩) (.string ⟨i.obj.s.toArray⟩)) W PK K=K (.string ⟨(Bd.streamW++Bd.nl++i.obj.s).toArray⟩) W:=s_add (a:=Bd.streamW++Bd.nl) (by show 7+i.obj.s.length≤_;omega);have e3:∀{PK:PKT} {K:VWP} {T:TypeId} {W:World},DoX prog (mBin .add T (.string ⟨(Bd.streamW++Bd.nl++i.obj.s).toArray⟩) (.string ⟨#[10,101,110,100,115,116,114,101,97,109,10]⟩)) W PK K=K (.string ⟨(Bd.streamW++Bd.nl++i.obj.s++(Bd.nl++Bd.endstream++Bd.nl)).toArray⟩) W:=s_add (b:=Bd.nl++Bd.endstream++Bd.nl) (by
   have a1:Bd.streamW.length=6:=rfl;have a2:Bd.endstream.length=9:=rfl;simp only[List.length_append,hnl,a1,a2];omega)
  rw[e2,e3];refine c_turn 1 ho rfl (writeString_ret (ho.at_ 1 rfl) (by
   have a1:Bd.streamW.length=6:=rfl;have a2:Bd.endstream.length=9:=rfl;simp only[List.length_append,hnl,a1,a2];omega)) ?_
  rintro _ _ w16 ⟨_,v3,rfl⟩ ho;refine⟨rfl,fin2 (v3:=v3) ?_⟩;rw[Bd.rest,if_pos h9];simpa only[List.append_assoc,List.set_cons_zero,List.set_cons_succ] using ho
 rw[fa_o0,ob_k ho 0 rfl];by_cases h9:i.obj.k=9
 case neg=>
  rw[if_neg h9] at htx;simp only[rs,decide_eq_false h9,i_f];exact⟨rfl,fin ho M.le_refl hv (by omega) htx⟩
 rw[if_pos h9] at htx;simp only[rs,decide_eq_true h9,i_t];have ho:=ho.drew;refine⟨fun W=>(obE b6 i.obj vk vc).is W,ho.at_ 0 rfl,?_⟩;refine hd_pure _ (fun _=>run_fa fo_o4) (hd_do _ (fun W h=>run_load_cell nSlS5 (cells_cell (T:=25) (cs:=obC i.obj vk vc) (i:=4) h rfl)) ?_);refine hd_pure _ (fun _=>run_fa fo_o5) (hd_do _ (fun W h=>run_load_cell nSlOb (cells_cell (T:=25) (cs:=obC i.obj vk vc) (i:=5) h rfl)) ?_);refine hd_pure _ (fun _=>run_obKK hv.oneK hv.oneC i.obj _) ?_;refine hd_pure _ (fun _=>run_fa fo_o3) (hd_do _ (fun W h=>run_load_cell nStr5 (cells_cell (T:=25) (cs:=obC i.obj vk vc) (i:=3) h rfl)) ?_);refine hd_pure _ (fun _=>run_len Tryz.underlying9) ?_;refine c_below ho (R:=fun v=>v=obV (ob1 2 i.obj.s.length 0 []) nilS nilS) (vint_ret _ _) ?_;rintro _ w14 rfl ho;refine⟨ho.at_ 0 rfl,?_⟩;obtain⟨cs,ha⟩:=hv.slices;have hdv:OV M.A M.w (obV (.mk 7 0 0 [] i.obj.keys i.obj.kids) vk vc) (.mk 7 0 0 [] i.obj.keys i.obj.kids):=ObAt.ov (o:=.mk 7 0 0 [] i.obj.keys i.obj.kids) (cs:=cs) ⟨ha.keys,ha.kids,ha.all⟩;have hdw:=Bd.dict_wt i.obj;have hxw:(ob1 2 i.obj.s.length 0 []).wt=6:=Bd.int_wt _;refine c_mem ho 2 rfl (vset_ret (.mk 7 0 0 [] i.obj.keys i.obj.kids) (ob1 2 i.obj.s.length 0 []) _ _ Vl.lenK M w14 (by omega) (by omega) (by decide) (ho.hasM 2 rfl) hdv ob1_ov2) ?_;rintro _ N w15 hle ⟨y,rfl,hy⟩ ho;have hy:OV N.A N.w y (Bd.dictOf i.obj).1:=hy;have hset:Vl.set (.mk 7 0 0 [] i.obj.keys i.obj.kids) Vl.lenK (ob1 2 i.obj.s.length 0 [])=Bd.dictOf i.obj:=rfl;rw[hset];obtain⟨yk,yc,ycs,rfl,hya⟩:=hy.open;have hdo:=Bd.dictOf_wt i.obj;generalize hD:Bd.dictOf i.obj=D at *;refine⟨ho.at_ 0 rfl,?_⟩;refine hd_pure (obV D.1 yk yc) (fun _=>rfl) (hd_pure (.int .i64 D.2) (fun _=>rfl) ?_);refine c_bmustO hya.keys.one hya.kids.one ho (fun he w16 ho=>⟨ho.at_ 0 rfl,?_⟩) fun he w16 ho=>fun _ _ _ _ _ _ _ _ _ _=>fail (L:=[_,_]) ho hle he (by rw[htx,if_pos he]);rw[if_neg (by simp[he])] at htx;refine ob_put 0 hya.keys.one hya.kids.one ho rfl fun w17 ho=>?_;exact⟨rfl,fin ho hle hya.ov (by omega) htx⟩
end
end Go.Proofs.YtkejpieaafeblaaGreatDoor

namespace Go.Proofs.YtkejpieaafeblaaGreatDoor
section
open Eng Go.RowKit
theorem blen1_plain:plainB prog 34=true:=by kernel_rfl
theorem blength_ret (s:List UInt8)(a:Int)(M:Mem)(w:World)(hs:s.length≤20000)(hM:M.has w):RetM prog 11 #[.string ⟨s.toArray⟩,.int .i64 a] M w (fun v N=>∃u,v=errV u (Bd.length s a).2∧OV N.A N.w u (Bd.length s a).1):=by
 refine retM_of hM fun K hK=>S_body_Length_ok ?_;unfold S_body_Length;refine o_oba (OwnS.memS hM) fun b4 w1 ho=>?_;refine o_new (fun b=>.pointer (some ⟨b,0,none⟩)) [.int .i64 0] 30 (fun _=>by kernel_rfl) ho fun b5 w3 ho=>?_;have ho:OwnS M.A w w3 ([errE b5 0,obE b4 ob0 nilS nilS]++[.mem M]):=ho;have ho:=ho.perm List.perm_append_comm;have ho:OwnS M.A w w3 [.mem M,errE b5 0,obE b4 ob0 nilS nilS]:=ho;rw[m_func];refine⟨_,rfl,?_⟩;have fail:∀{W:World} {L:List Ent} {x e:Int} {o:Ob} {vk vc:Value} {N:Mem},OwnS M.A w W (L++([.mem N,errE b5 x,obE b4 o vk vc]++[]))→M.le N→e≠0→Bd.length s a=(Vl.ob0,e) →
   S_body_Length_p0 { target:=.fn (.func 34) #[.pointer (some ⟨b5,0,none⟩),.pointer (some ⟨b4,0,none⟩)],args:=#[]++#[] } (.pointer (some ⟨b4,0,none⟩)) (.pointer (some ⟨b5,0,none⟩)) K [upE e] W:=by
  intro W L x e o vk vc N ho hle h0 hh;have ho:=ho.front;show pd prog _ K _ [upE e] W;unfold pd;refine leave_fn (by simp) blen1_plain (S_body_Length_1_dok (t0:=.pointer (some ⟨b5,0,none⟩)) (t1:=.pointer (some ⟨b4,0,none⟩)) ?_);simp only[S_body_Length_1,recV,recM,upE];refine c_bcaughtE (e:=e) ho 1 rfl fun w5 ho=>?_;have ho:OwnS M.A w w5 (.mem N::errE b5 e::obE b4 o vk vc::(L++[])):=ho;unfold S_body_Length_1_r;rw[l_cell nErr5 (ho.cell 1 rfl 0 rfl)];simp only[rs,decide_eq_true (show e≠0 from h0),i_t];rw[m_ob0];refine ob_put 2 rfl rfl ho rfl fun w6 ho=>?_;refine ret_v2 (rv_cell (ho.agg 2 rfl aggOb)) (rv_cell (AtV.cell nErr5 (ho.cell 1 rfl 0 rfl))) (hK _ _ N _ 0 ho rfl hle ?_);rw[hh];exact⟨_,rfl,ob0_ov2⟩
 have hread:=Bd.length.eq_1 s a;by_cases hr:0≤a∧a≤s.length
 case neg=>
  have hb:Bd.head s a=⟨0,0,0,1⟩:=by unfold Bd.head;rw[if_pos (by omega)]
  rw[hb,if_pos (by decide)] at hread;refine c_bfrom ho (fun h=>absurd h hr) fun _=>fail (L:=[]) ho M.le_refl (by decide) hread
 refine c_bfrom ho (fun _ b w4 ho=>?_) fun h=>absurd hr h;have ho:OwnS M.A w w4 [brE b s a,.mem M,errE b5 0,obE b4 ob0 nilS nilS]:=ho;have hh:Bd.head s a=Bd.headG s a:=by unfold Bd.head;rw[if_neg (by omega)]
 refine c_lend ho 0 rfl (bhead_ret b s a w4 (by omega) (ho.at_ 0 rfl)) ?_ fun e2 w5 hn ho=>?_
 rotate_left
 ·rw[←hh] at hn ⊢;rw[if_pos hn] at hread;exact fail (L:=[_]) ho M.le_refl hn hread
 rintro _ _ w5 hz ⟨rfl,rfl⟩ ho;rw[←hh] at hz ho;rw[if_neg (by simp[hz])] at hread;have hhb:=Bd.head_bd hz;generalize Bd.head s a=hd at *;have ho:OwnS M.A w w5 [brE b s hd.t,.mem M,errE b5 0,obE b4 ob0 nilS nilS]:=ho;refine c_lent ho (bobject_ret b s hd.t M w5 (by omega) (ho.pair.at_ 0 rfl)) ?_ fun e2 w8 hn ho=>?_
 rotate_left
 ·rw[if_pos hn] at hread;exact fail (L:=[_]) ho M.le_refl hn hread
 rintro u N w8 hz2 hle hu ho;rw[if_neg (by simp[hz2])] at hread;have hwt:(Ps.object s hd.t).1.wt≤1000000000:=by
  unfold Ps.object at hz2 ⊢;split at hz2
  ·simp[Ps.bad] at hz2
  ·rename_i hb
   rw[if_neg hb];have h1:=Ps.obj_wt s 24 hd.t hz2;have h2:=Ps.obj_bd hz2;omega
 generalize Ps.object s hd.t=x at *;obtain⟨xk,xc,xcs,rfl,hx⟩:=hu.open;refine o_oba ho fun b7 w9 ho=>?_;refine ob_put 0 hx.keys.one hx.kids.one ho rfl fun w10 ho=>?_;have ho:OwnS M.A w w10 [obE b7 x.1 xk xc,brE b s x.2.1,.mem N,errE b5 0,obE b4 ob0 nilS nilS]:=ho;simp only[rs];rw[fa_br1];refine do_eq (br_a (ho.at_ 1 rfl)) |>.mpr ?_;refine c_below ho (R:=fun v=>v=tokR (Lx.next s x.2.1)) (next_ret s x.2.1 w10 (by omega)) ?_;rintro _ w11 rfl ho;simp only[tokR,ex];have hw:Bd.word s x.2.1 Bd.streamW=if (Lx.next s x.2.1).2≠0 then (0,(Lx.next s x.2.1).2) else if (Lx.next s x.2.1).1.k=0 then (0,4) else if (Lx.next s x.2.1).1.k≠5∨(Lx.next s x.2.1).1.s≠Bd.streamW then (0,3) else ((Lx.next s x.2.1).1.t,0):=rfl
 generalize Lx.next s x.2.1=t1 at *
 refine o_tok ho fun b8 w12 ho=>?_;refine tk_put 0 ho rfl fun w13 ho=>?_;have ho:OwnS M.A w w13 [tokE b8 t1.1,obE b7 x.1 xk xc,brE b s x.2.1,.mem N,errE b5 0,obE b4 ob0 nilS nilS]:=ho;have fin:∀{W:World} {L:List Ent} {N':Mem} {o:Ob} {yk yc:Value},OwnS M.A w W (L++([.mem N',errE b5 0,obE b4 o yk yc]++[]))→M.le N'→OV N'.A N'.w (obV o yk yc) o→Bd.length s a=(o,0) →
   DoX prog (mStore 30 (.pointer (some ⟨b5,0,none⟩)) (.int .i64 0)) W (S_body_Length_p0 { target:=.fn (.func 34) #[.pointer (some ⟨b5,0,none⟩),.pointer (some ⟨b4,0,none⟩)],args:=#[]++#[] } (.pointer (some ⟨b4,0,none⟩)) (.pointer (some ⟨b5,0,none⟩)) K) fun _ w=>
    Leave prog [.cell (.pointer (some ⟨b4,0,none⟩)) 25,.cell (.pointer (some ⟨b5,0,none⟩)) 30] K [{ target:=.fn (.func 34) #[.pointer (some ⟨b5,0,none⟩),.pointer (some ⟨b4,0,none⟩)],args:=#[]++#[] }] .returning w:=by
  intro W L N' o yk yc ho hle hov hR;have ho:=ho.front;refine o_store 1 ho rfl (by kernel_rfl) rfl (by simp) fun w' ho=>?_;refine leave_fn (by simp) blen1_plain (S_body_Length_1_dok (t0:=.pointer (some ⟨b5,0,none⟩)) (t1:=.pointer (some ⟨b4,0,none⟩)) ?_);simp only[S_body_Length_1,recV,recM];refine c_bcaughtN ?_;unfold S_body_Length_1_r;rw[l_cell nErr5 (ho.cell 1 rfl 0 rfl)];simp only[rs,show decide ((0:Int)≠0)=false by decide,i_f];refine ret_v2 (rv_cell (ho.agg 2 rfl aggOb)) (rv_cell (AtV.cell nErr5 (ho.cell 1 rfl 0 rfl))) (hK _ _ N' _ 0 ho rfl hle ?_);rw[hR];exact⟨_,rfl,hov⟩
 have none_:Bd.length s a=(Vl.ob0,0)→CallX prog 36 #[] w13 (S_body_Length_p0 { target:=.fn (.func 34) #[.pointer (some ⟨b5,0,none⟩),.pointer (some ⟨b4,0,none⟩)],args:=#[]++#[] } (.pointer (some ⟨b4,0,none⟩)) (.pointer (some ⟨b5,0,none⟩)) K) fun t46 w=>
   DoX prog (mStore 25 (.pointer (some ⟨b4,0,none⟩)) t46) w (S_body_Length_p0 { target:=.fn (.func 34) #[.pointer (some ⟨b5,0,none⟩),.pointer (some ⟨b4,0,none⟩)],args:=#[]++#[] } (.pointer (some ⟨b4,0,none⟩)) (.pointer (some ⟨b5,0,none⟩)) K) fun _ w=>
   DoX prog (mStore 30 (.pointer (some ⟨b5,0,none⟩)) (.int .i64 0)) w (S_body_Length_p0 { target:=.fn (.func 34) #[.pointer (some ⟨b5,0,none⟩),.pointer (some ⟨b4,0,none⟩)],args:=#[]++#[] } (.pointer (some ⟨b4,0,none⟩)) (.pointer (some ⟨b5,0,none⟩)) K) fun _ w=>
    Leave prog [.cell (.pointer (some ⟨b4,0,none⟩)) 25,.cell (.pointer (some ⟨b5,0,none⟩)) 30] K [{ target:=.fn (.func 34) #[.pointer (some ⟨b5,0,none⟩),.pointer (some ⟨b4,0,none⟩)],args:=#[]++#[] }] .returning w:=by
  intro hR;refine c_below ho (R:=fun v=>v=obV Vl.ob0 nilS nilS) (vnull_ret w13) ?_;rintro _ w14 rfl ho;refine ob_put 5 rfl rfl ho rfl fun w15 ho=>?_;exact fin (L:=[_,_,_]) ho hle ob0_ov2 hR
 by_cases hz3:t1.2=0
 case neg=>
  rw[if_pos (.inr (by rw[hw,if_pos hz3];exact hz3))] at hread;simp only[n_err,decide_eq_true (show t1.2≠0 from hz3),rs,g_un,i_t];exact none_ hread
 by_cases h5:t1.1.k=5
 case neg=>
  have hb:(Bd.word s x.2.1 Bd.streamW).2≠0:=by
   rw[hw,if_neg (by simp[hz3])];by_cases h0:t1.1.k=0
   ·rw[if_pos h0];decide
   ·rw[if_neg h0,if_pos (.inl h5)];decide
  rw[if_pos (.inr hb)] at hread;simp only[n_err,hz3,show decide ((0:Int)≠0)=false by decide,rs,fa_t0,tk_k ho 0 rfl,decide_eq_true (show t1.1.k≠5 from h5),g_un,i_t];exact none_ hread
 by_cases hsw:t1.1.s=Bd.streamW
 case neg=>
  have hsw':t1.1.s≠[115,116,114,101,97,109]:=hsw;rw[if_pos (.inr (by rw[hw,if_neg (by simp[hz3]),if_neg (by omega),if_pos (.inr hsw)];decide))] at hread;simp only[n_err,hz3,h5,show decide ((0:Int)≠0)=false by decide,show decide ((5:Int)≠5)=false by decide,rs,fa_t0,tk_k ho 0 rfl,fa_t4',tk_s ho 0 rfl,decide_eq_true hsw',g_un,i_t];exact none_ hread
 have hsw':t1.1.s=[115,116,114,101,97,109]:=hsw;have hws:(Bd.word s x.2.1 Bd.streamW).2=0:=by rw[hw,if_neg (by simp[hz3]),if_neg (by omega),if_neg (by simp[h5,hsw])]
 by_cases h7:x.1.k=7
 case neg=>
  rw[if_pos (.inl h7)] at hread;simp only[n_err,hz3,h5,hsw',show decide ((0:Int)≠0)=false by decide,show decide ((5:Int)≠5)=false by decide,rs,fa_t0,tk_k ho 0 rfl,fa_t4',tk_s ho 0 rfl,ne_eq,not_true,decide_false,fa_o0,ob_k ho 1 rfl,h7,not_false_eq_true,decide_true,g_un,i_t];exact none_ hread
 rw[if_neg (by simp[h7,hws])] at hread;simp only[n_err,hz3,h5,hsw',show decide ((0:Int)≠0)=false by decide,show decide ((5:Int)≠5)=false by decide,rs,fa_t0,tk_k ho 0 rfl,fa_t4',tk_s ho 0 rfl,ne_eq,not_true,decide_false,fa_o0,ob_k ho 1 rfl,h7,g_un,i_f,ob_v ho 1 rfl];refine c_mem ho 3 rfl (vget_ret x.1 _ Vl.lenK N w13 (by omega) (ho.hasM 3 rfl) hx.ov) ?_;rintro _ N2 w14 hle2 ⟨u,rfl,hu⟩ ho;obtain⟨yk,yc,ycs,rfl,hy⟩:=hu.open;simp only[getV,ex];refine o_oba ho fun b10 w15 ho=>?_;refine ob_put 0 hy.keys.one hy.kids.one ho rfl fun w16 ho=>?_;rw[ob_v ho 0 rfl];refine ob_put 6 hy.keys.one hy.kids.one ho rfl fun w17 ho=>?_;exact fin (L:=[_,_,_,_]) ho (hle.trans hle2) hy.ov hread
end
section
open Eng Go.RowKit
namespace Bd
def sameI (a b:It):Bool:=decide (a.num=b.num)&&decide (a.gen=b.gen)&&Ob.eqb a.obj b.obj
theorem sameI_iff (a b:It):sameI a b=true↔a=b:=by
 cases a;cases b;simp[sameI,Ob.eqb_iff,and_assoc]
def heldI:It:=⟨4,1,heldO⟩
def mayR (i:It):List UInt8×Bool:=if 300 < Vl.size i.obj∨2000 < i.obj.s.length then ([],false) else ((text i).1,decide ((text i).2=0)&&decide ((text i).1.length≤6000))
end Bd
theorem run_notB {P:Program}{W:World}{b:Bool}:(mUn .not (.bool b)).run P W=.ok (.value (.bool (!b))) W:=mv_run (by simp[Op.unary])
theorem heldO_ov {A:Nat→Prop}{w:World}:OV A w (obV Bd.heldO nilS nilS) Bd.heldO:=ob1_ov2 (k:=9) (n:=0) (g:=0) (s:=[97,98])
theorem held_ret (w:World):Ret prog 22 #[] w (fun v w'=>v=itV Bd.heldI nilS nilS∧Below w.heap.size w w'):=by
 refine ret_of fun K hK=>S_foliantlaw08_Held_ok ?_;unfold S_foliantlaw08_Held;refine o_ita (Own.start w) fun b w1 ho=>?_;have h1:∀{PK:PKT} {K:VWP},DoX prog (mBuild 25 #[(0,.int .i64 9),(3,.string ⟨#[97,98]⟩)]) w1 PK K=K (obV Bd.heldO nilS nilS) w1:=do_eq (by kernel_rfl);have h2:∀{PK:PKT} {K:VWP},DoX prog (mBuild 27 #[(0,.int .i64 4),(1,.int .i64 1),(2,obV Bd.heldO nilS nilS)]) w1 PK K=K (itV Bd.heldI nilS nilS) w1:=do_eq (by kernel_rfl);rw[h1,h2];refine it_put 0 rfl rfl ho rfl fun w2 ho=>?_;exact ret_v1 (rv_cell (ho.agg 0 rfl aggIt)) (hK _ _ ⟨rfl,ho.done⟩)
theorem bsameI_ret (a b:It){ak ac bk bc:Value}(w:World)(hw:a.obj.wt≤1000000000)(ha:OV (InW w) w (obV a.obj ak ac) a.obj)(hb:OV (InW w) w (obV b.obj bk bc) b.obj) :
  Ret prog 21 #[itV a ak ac,itV b bk bc] w (fun v w'=>v=.bool (Bd.sameI a b)∧Below w.heap.size w w'):=by
 refine ret_of fun K hK=>S_foliantlaw08_same_ok ?_;unfold S_foliantlaw08_same;obtain⟨acs,haa⟩:=ha.slices;obtain⟨bcs,hba⟩:=hb.slices;refine o_itb a ha.oneK ha.oneC (Own.start w) fun p w1 ho=>?_;refine o_itb b hb.oneK hb.oneC ho fun q w2 ho=>?_;unfold Bd.sameI at hK;rw[fa_i0,it_num ho 1 rfl,fa_i0,it_num ho 0 rfl];simp only[rs];by_cases h1:a.num=b.num
 case neg=>simp only[rs,h1,decide_false,Bool.false_and,g_un] at hK ⊢;exact hK _ _ ⟨rfl,ho.done⟩
 simp only[rs,h1,decide_true,fa_i1,it_gen ho 1 rfl,it_gen ho 0 rfl,Bool.true_and] at hK ⊢;by_cases h2:a.gen=b.gen
 case neg=>simp only[rs,h2,decide_false,Bool.false_and,g_un] at hK ⊢;exact hK _ _ ⟨rfl,ho.done⟩
 simp only[rs,h2,decide_true,fa_i2,it_obj ho 1 rfl,it_obj ho 0 rfl,Bool.true_and] at hK ⊢;refine c_told (rsame5_ret a.obj.wt a.obj b.obj _ _ w2 (Nat.le_refl _) (by omega) (haa.in_ ho).ov (hba.in_ ho).ov) rfl ho fun w3 ho=>?_;exact hK _ _ ⟨rfl,ho.done⟩
theorem bmay_ret (i:It){vk vc:Value}(M:Mem)(w:World)(ht:Tb w)(hw:i.obj.wt≤50000000)(hM:M.has w)(hv:OV M.A M.w (obV i.obj vk vc) i.obj) :
  Ret prog 20 #[itV i vk vc] w (fun r w'=>r=.tuple #[.string ⟨(Bd.mayR i).1.toArray⟩,.bool (Bd.mayR i).2]∧Below w.heap.size w w'):=by
 refine ret_of fun K hK=>S_foliantlaw08_may_ok ?_;unfold S_foliantlaw08_may;refine o_itb i hv.oneK hv.oneC (OwnS.memS hM) fun b1 w1 ho=>?_;have ho:OwnS M.A w w1 [itE b1 i vk vc,.mem M]:=ho;have tb:∀{W:World} {L:List Ent} {N:Mem} (j:Nat),OwnS M.A w W L→L[j]?=some (.mem N)→M.le N→Tb W:=fun j ho hj hle=>ht.mono (ho.toGives j hj hle hM).below;rw[fa_i2,it_obj ho 0 rfl];refine c_below ho (R:=fun v=>v=.int .i64 (Vl.size i.obj:Nat)) (rsize_ret _ i.obj _ w1 (Nat.le_refl _) (OV.inw (ho.hasM 1 rfl) hv) (by omega)) ?_;rintro _ w2 rfl ho;have out:(300 < Vl.size i.obj∨2000 < i.obj.s.length)→∀{W:World},OwnS M.A w W [itE b1 i vk vc,.mem M]→K (.returned (.tuple #[.string ⟨#[]⟩,.bool false])) W:=by
  intro h W ho;refine hK _ _ ⟨?_,(ho.toGives 1 rfl M.le_refl hM).below⟩;rw[Bd.mayR,if_pos h]
 have ls:∀{PK:PKT} {K:VWP} {W:World},OwnS M.A w W [itE b1 i vk vc,.mem M]→DoX prog (mLoad 9 (.pointer (some ⟨b1,0+2+3,none⟩))) W PK K=K (.string ⟨i.obj.s.toArray⟩) W:=fun ho=>do_eq (run_load_cell nStr5 (ho.cell 0 rfl 5 rfl));by_cases h1:(300:Int) < (Vl.size i.obj:Nat)
 ·simp only[decide_eq_true h1,rs,g_un];exact out (.inl (by omega)) ho
 simp only[decide_eq_false h1,rs,fa_i2,fa_o3,ls ho,s_len Tryz.underlying9];by_cases h2:(2000:Int) < (i.obj.s.length:Int)
 ·simp only[decide_eq_true h2,rs];exact out (.inr (by omega)) ho
 simp only[decide_eq_false h2,rs];rw[it_v ho 0 rfl];refine c_below ho (R:=fun v=>v=txtV (Bd.text i)) (btext_ret i M w2 (tb 1 ho rfl M.le_refl) hw (ho.hasM 1 rfl) hv) ?_;rintro _ w3 rfl ho;have hR:Bd.mayR i=((Bd.text i).1,decide ((Bd.text i).2=0)&&decide ((Bd.text i).1.length≤6000)):=by rw[Bd.mayR,if_neg (by omega)]
 have hB:=(ho.toGives 1 rfl M.le_refl hM).below;rw[hR] at hK;simp only[txtV,ex];by_cases h3:(Bd.text i).2=0
 case neg=>
  simp only[rs,decide_eq_false h3,g_un];exact hK _ _ ⟨by rw[decide_eq_false h3];rfl,hB⟩
 have e6:decide (((Bd.text i).1.length:Int)≤6000)=decide ((Bd.text i).1.length≤6000):=by
  by_cases h:(Bd.text i).1.length≤6000
  ·rw[decide_eq_true h,decide_eq_true (by omega)]
  ·rw[decide_eq_false h,decide_eq_false (by omega)]
 simp only[rs,decide_eq_true h3,s_len Tryz.underlying9,e6];exact hK _ _ ⟨by rw[decide_eq_true h3];rfl,hB⟩
section
variable {w:World}{PK:PKT}{S:Nat→Prop}{w0:World}{L:List Ent}
theorem c_bread {s:List UInt8}{a len:Int}{M:Mem}{K:Value→Value→VWP}(i:Nat)(ho:OwnS S w0 w L)(hi:L[i]?=some (.mem M))(hs:s.length≤20000)
  (k:∀b vk vc N w',M.le N→OV N.A N.w (obV (Bd.read s a len).1.obj vk vc) (Bd.read s a len).1.obj→OwnS S w0 w' (itE b (Bd.read s a len).1 vk vc::L.set i (.mem N))→K (.int .i64 (Bd.read s a len).2.1) (.int .i64 (Bd.read s a len).2.2) (.pointer (some ⟨b,0,none⟩)) w') :
  CallX prog 9 #[.string ⟨s.toArray⟩,.int .i64 a,.int .i64 len] w PK fun t w=>DoX prog (mExt t 0) w PK fun t0 w=>DoX prog (mExt t 1) w PK fun t1 w=>DoX prog (mExt t 2) w PK fun t2 w=>
   DoX prog (mAlloc 27) w PK fun p w=>DoX prog (mStore 27 p t0) w PK fun _ w=>K t1 t2 p w:=by
 refine c_mem ho i hi (bread_ret s a len M w hs (ho.hasM i hi)) ?_;rintro _ N w1 hle ⟨vk,vc,rfl,hov⟩ ho;simp only[ex];refine o_ita ho fun b w2 ho=>?_;refine it_put (i':=(Bd.read s a len).1) 0 hov.oneK hov.oneC ho rfl fun w3 ho=>?_;exact k b vk vc N w3 hle hov ho
theorem c_blength {s:List UInt8}{a:Int}{M:Mem}{K:Value→VWP}(i:Nat)(ho:OwnS S w0 w L)(hi:L[i]?=some (.mem M))(hs:s.length≤20000)
  (k:∀b vk vc N w',M.le N→OV N.A N.w (obV (Bd.length s a).1 vk vc) (Bd.length s a).1→OwnS S w0 w' (obE b (Bd.length s a).1 vk vc::L.set i (.mem N))→K (.int .i64 (Bd.length s a).2) (.pointer (some ⟨b,0,none⟩)) w') :
  CallX prog 11 #[.string ⟨s.toArray⟩,.int .i64 a] w PK fun t w=>DoX prog (mExt t 0) w PK fun t0 w=>DoX prog (mExt t 1) w PK fun t1 w=>
   DoX prog (mAlloc 25) w PK fun p w=>DoX prog (mStore 25 p t0) w PK fun _ w=>K t1 p w:=by
 refine c_mem ho i hi (blength_ret s a M w hs (ho.hasM i hi)) ?_;rintro _ N w1 hle ⟨u,rfl,hu⟩ ho;obtain⟨vk,vc,cs,rfl,ha⟩:=hu.open;simp only[errV,ex];refine o_oba ho fun b w2 ho=>?_;refine ob_put (o':=(Bd.length s a).1) 0 ha.keys.one ha.kids.one ho rfl fun w3 ho=>?_;exact k b vk vc N w3 hle ha.ov ho
end
end
section
open Eng Go.RowKit
theorem lives08_ret (w:World)(ht:Tb w):Ret prog 8 #[] w (fun v w'=>v=.bool true∧Below w.heap.size w w'):=by
 refine ret_of fun K hK=>S_foliantlaw08_lives_ok ?_;unfold S_foliantlaw08_lives;have hM:(Mem.all w).has w:=Mem.all_has w;have ho:OwnS (Mem.all w).A w w [.mem (Mem.all w)]:=OwnS.memS hM;have tb:∀{W:World} {L:List Ent} {N:Mem} (j:Nat),OwnS (Mem.all w).A w W L→L[j]?=some (.mem N)→(Mem.all w).le N→Tb W:=fun j ho hj hle=>ht.mono (ho.toGives j hj hle hM).below;have m1:∀{PK:PKT} {K:VWP},DoX prog (mBuild 25 #[(0,.int .i64 2),(1,.int .i64 7)]) w PK K=K (obV (.mk 2 7 0 [] [] []) nilS nilS) w:=do_eq (by kernel_rfl);have m2:∀{PK:PKT} {K:VWP},DoX prog (mBuild 27 #[(0,.int .i64 3),(2,obV (.mk 2 7 0 [] [] []) nilS nilS)]) w PK K=K (itV ⟨3,0,.mk 2 7 0 [] [] []⟩ nilS nilS) w:=do_eq (by kernel_rfl);rw[m1,m2];refine c_below ho (R:=fun v=>v=txtV (Bd.text ⟨3,0,.mk 2 7 0 [] [] []⟩)) (btext_ret ⟨3,0,.mk 2 7 0 [] [] []⟩ (Mem.all w) w ht (by decide) hM (ob1_ov2 (k:=2) (n:=7) (g:=0) (s:=[]))) ?_;rintro _ w1 rfl ho;rw[Bd.smp1];simp only[txtV,ex];refine c_below ho (R:=fun v=>v=itV Bd.heldI nilS nilS) (held_ret w1) ?_;rintro _ w2 rfl ho;refine c_below ho (R:=fun v=>v=txtV (Bd.text Bd.heldI)) (btext_ret Bd.heldI (Mem.all w) w2 (tb 0 ho rfl (Mem.all w).le_refl) (by decide) (ho.hasM 0 rfl) heldO_ov) ?_;rintro _ w3 rfl ho;rw[show Bd.text Bd.heldI=(Bd.sF,0) from Bd.smp2];simp only[txtV,ex];refine c_bread (s:=Bd.sA) 0 ho rfl (by decide) fun b5 ak ac N1 w4 h1 ov1 ho=>?_;have ho:OwnS (Mem.all w).A w w4 [itE b5 (Bd.read Bd.sA 0 (-1)).1 ak ac,.mem N1]:=ho;refine c_bread (s:=Bd.sB) 1 ho rfl (by decide) fun b8 _ _ N2 w5 h2 _ ho=>?_;have ho:OwnS (Mem.all w).A w w5 [itE b5 (Bd.read Bd.sA 0 (-1)).1 ak ac,.mem N2]:=ho.tail;refine c_bread (s:=Bd.sC) 1 ho rfl (by decide) fun b11 _ _ N3 w6 h3 _ ho=>?_;have ho:OwnS (Mem.all w).A w w6 [itE b5 (Bd.read Bd.sA 0 (-1)).1 ak ac,.mem N3]:=ho.tail;refine c_bread (s:=Bd.sD) 1 ho rfl (by decide) fun b14 _ _ N4 w7 h4 _ ho=>?_;have ho:OwnS (Mem.all w).A w w7 [itE b5 (Bd.read Bd.sA 0 (-1)).1 ak ac,.mem N4]:=ho.tail;refine c_bread (s:=Bd.sE) 1 ho rfl (by decide) fun b17 _ _ N5 w8 h5 _ ho=>?_;have ho:OwnS (Mem.all w).A w w8 [itE b5 (Bd.read Bd.sA 0 (-1)).1 ak ac,.mem N5]:=ho.tail;refine c_bread (s:=Bd.sF) 1 ho rfl (by decide) fun b20 fk fc N6 w9 h6 ov6 ho=>?_;have ho:OwnS (Mem.all w).A w w9 [itE b20 (Bd.read Bd.sF 0 2).1 fk fc,itE b5 (Bd.read Bd.sA 0 (-1)).1 ak ac,.mem N6]:=ho;refine c_bread (s:=Bd.sG) 2 ho rfl (by decide) fun b23 gk gc N7 w10 h7 ov7 ho=>?_;have ho:OwnS (Mem.all w).A w w10 [itE b23 (Bd.read Bd.sG 0 3).1 gk gc,itE b20 (Bd.read Bd.sF 0 2).1 fk fc,itE b5 (Bd.read Bd.sA 0 (-1)).1 ak ac,.mem N7]:=ho;refine c_bread (s:=Bd.sG) 3 ho rfl (by decide) fun b26 _ _ N8 w11 h8 _ ho=>?_;have ho:OwnS (Mem.all w).A w w11 [itE b23 (Bd.read Bd.sG 0 3).1 gk gc,itE b20 (Bd.read Bd.sF 0 2).1 fk fc,itE b5 (Bd.read Bd.sA 0 (-1)).1 ak ac,.mem N8]:=ho.tail;refine c_bread (s:=Bd.sH) 3 ho rfl (by decide) fun b29 _ _ N9 w12 h9 _ ho=>?_;have ho:OwnS (Mem.all w).A w w12 [itE b23 (Bd.read Bd.sG 0 3).1 gk gc,itE b20 (Bd.read Bd.sF 0 2).1 fk fc,itE b5 (Bd.read Bd.sA 0 (-1)).1 ak ac,.mem N9]:=ho.tail;refine c_bread (s:=Bd.sI) 3 ho rfl (by decide) fun b32 _ _ N10 w13 h10 _ ho=>?_;have ho:OwnS (Mem.all w).A w w13 [itE b23 (Bd.read Bd.sG 0 3).1 gk gc,itE b20 (Bd.read Bd.sF 0 2).1 fk fc,itE b5 (Bd.read Bd.sA 0 (-1)).1 ak ac,.mem N10]:=ho.tail;refine c_bread (s:=Bd.sJ) 3 ho rfl (by decide) fun b35 _ _ N11 w14 h11 _ ho=>?_;have ho:OwnS (Mem.all w).A w w14 [itE b23 (Bd.read Bd.sG 0 3).1 gk gc,itE b20 (Bd.read Bd.sF 0 2).1 fk fc,itE b5 (Bd.read Bd.sA 0 (-1)).1 ak ac,.mem N11]:=ho.tail;refine c_blength (s:=Bd.sK) 3 ho rfl (by decide) fun b38 kk kc N12 w15 h12 ov12 ho=>?_;have ho:OwnS (Mem.all w).A w w15 [obE b38 (Bd.length Bd.sK 0).1 kk kc,itE b23 (Bd.read Bd.sG 0 3).1 gk gc,itE b20 (Bd.read Bd.sF 0 2).1 fk fc,itE b5 (Bd.read Bd.sA 0 (-1)).1 ak ac,.mem N12]:=ho;refine c_blength (s:=Bd.sL) 4 ho rfl (by decide) fun b40 lk lc N13 w16 h13 ov13 ho=>?_;have ho:OwnS (Mem.all w).A w w16 [obE b40 (Bd.length Bd.sL 0).1 lk lc,obE b38 (Bd.length Bd.sK 0).1 kk kc,itE b23 (Bd.read Bd.sG 0 3).1 gk gc,itE b20 (Bd.read Bd.sF 0 2).1 fk fc,itE b5 (Bd.read Bd.sA 0 (-1)).1 ak ac,.mem N13]:=ho;have hle6:=((((h1.trans h2).trans h3).trans h4).trans h5).trans h6;have hle67:=((((((h7.trans h8).trans h9).trans h10).trans h11).trans h12).trans h13);have hle7:=(((((h8.trans h9).trans h10).trans h11).trans h12).trans h13);have hle:=hle6.trans hle67;refine c_below ho (R:=fun v=>v=hdV (Bd.head Bd.sM 0)) (bHead_ret Bd.sM 0 w16 (by decide)) ?_;rintro _ w17 rfl ho;rw[Bd.smp16];simp only[hdV,ex];refine c_below ho (R:=fun v=>v=hdV (Bd.head [] 1)) (bHead_ret [] 1 w17 (by decide)) ?_;rintro _ w18 rfl ho;have hX:=Bd.smp17;simp only[hdV,ex,hX];have hA:=Bd.smp3;have hB:=Bd.smp4;have hC:=Bd.smp5;have hD:=Bd.smp6;have hE:=Bd.smp7;have hF:=Bd.smp8;have hG:=Bd.smp9;have hG2:=Bd.smp10;have hH:=Bd.smp11;have hI:=Bd.smp12;have hJ:=Bd.smp13;have hKK:=Bd.smp14;have hL:=Bd.smp15;have hF1:(Bd.read Bd.sF 0 2).1=Bd.heldI:=by
  obtain⟨f1,f2,f3,_⟩:=hF;rw[Ob.eqb_iff] at f3;generalize (Bd.read Bd.sF 0 2).1=x at *;obtain⟨a,b,c⟩:=x;simp only at f1 f2 f3;rw[f1,f2,f3];rfl
 rw[hF1] at ho ov6;have hF2:=hF.2.2.2;rw[hB,hC,hD,hE,hG2,hH,hI,hJ,hF2];have hA2:=hA.2.2;rw[hA2];clear hF hF1 hF2 hB hC hD hE hG2 hH hI hJ;generalize Bd.read Bd.sA 0 (-1)=rA at *;generalize Bd.read Bd.sG 0 3=rG at *;generalize Bd.length Bd.sK 0=rK at *;generalize Bd.length Bd.sL 0=rL at *;have e1:∀{PK:PKT} {K:VWP} {W:World} {xo yo:Operand},DoX prog (mEq .neq 9 xo yo (.string ⟨Bd.sN.toArray⟩) (.string ⟨#[51,32,48,32,111,98,106,10,55,10,101,110,100,111,98,106,10]⟩)) W PK K=K (.bool false) W:=by
  intro PK K W xo yo;have:=n_str (P:=prog) (w:=W) (PK:=PK) (K:=K) (T:=9) (xo:=xo) (yo:=yo) (a:=Bd.sN) (b:=Bd.sN);rw[decide_eq_false (fun h=>h rfl)] at this;exact this
 have e2:∀{PK:PKT} {K:VWP} {W:World} {xo yo:Operand},DoX prog (mEq .neq 9 xo yo (.string ⟨Bd.sF.toArray⟩) (.string ⟨#[52,32,49,32,111,98,106,10,60,60,47,76,101,110,103,116,104,32,50,62,62,10,115,116,114,101,97,109,10,97,98,10,101,110,100,115,116,114,101,97,109,10,101,110,100,111,98,106,10]⟩)) W PK K=K (.bool false) W:=by
  intro PK K W xo yo;have:=n_str (P:=prog) (w:=W) (PK:=PK) (K:=K) (T:=9) (xo:=xo) (yo:=yo) (a:=Bd.sF) (b:=Bd.sF);rw[decide_eq_false (fun h=>h rfl)] at this;exact this
 have ln:∀{PK:PKT} {K:VWP},DoX prog (mLoad 2 (.pointer (some ⟨b5,0+2+1,none⟩))) w18 PK K=K (.int .i64 rA.1.obj.n) w18:=do_eq (run_load_cell nI65 (ho.cell 4 rfl 3 rfl));simp only[rs,e1,e2,fa_i0,fa_i2,fa_o1,it_num ho 4 rfl,ln,hA.1,hA.2.1,ne_eq,not_true_eq_false,decide_false];refine quietC (fun W=>OwnS (Mem.all w).A w W [obE b40 rL.1 lk lc,obE b38 rK.1 kk kc,itE b23 rG.1 gk gc,itE b20 Bd.heldI fk fc,itE b5 rA.1 ak ac,.mem N13]) ho.drew ?_;refine q_do _ (fun _=>run_fa fo_i0) (q_at (.int .i64 4) (fun W h=>run_load_cell nInt5 (h.cell 3 rfl 0 rfl)) (q_ne ?_));simp only[ne_eq,not_true_eq_false,decide_false,gq];refine q_do _ (fun _=>run_fa fo_i1) (q_at (.int .i64 1) (fun W h=>run_load_cell nInt5 (h.cell 3 rfl 1 rfl)) (q_ne ?_));simp only[ne_eq,not_true_eq_false,decide_false];refine q_pf ?_;simp only[gq];refine q_do _ (fun _=>run_fa fo_i2) (q_at (obV Bd.heldO fk fc) (fun W h=>run_load_at (AtV.agg aggOb rfl fun j u hj=>by
  have:=(Ent.cells b20 (itC Bd.heldI fk fc) 27);exact cells_cell (T:=27) (cs:=itC Bd.heldI fk fc) (h.at_ 3 rfl) (by rw[show (0+2+j)=j+2 by omega];exact hj))) ?_)
 refine q_call (itV Bd.heldI nilS nilS) (fun W h=>(held_ret W).mono fun v w' r=>⟨r.1,h.grow r.2⟩) ?_;refine q_do (obV Bd.heldO nilS nilS) (fun _=>by kernel_rfl) ?_;refine q_call (.bool (Ob.eqb Bd.heldO Bd.heldO)) (fun W h=>(rsame5_ret _ Bd.heldO Bd.heldO _ _ W (Nat.le_refl _) (by decide) (OV.inw (h.hasM 5 rfl) (OV.le hle67 ov6)) heldO_ov).mono fun v w' r=>⟨r.1,h.grow r.2⟩) ?_;rw[Ob.eqb_iff Bd.heldO Bd.heldO |>.2 rfl];refine q_do _ (fun _=>run_notB) (q_pf ?_);simp only[gq,Bool.not_true];refine q_slen Tryz.underlying9 (q_sub ?_);rw[show IntKind.wrap .i64 ((Bd.sF.length:Int) - 1)=48 by decide];refine q_ne ?_;simp only[ne_eq,not_true_eq_false,decide_false];refine q_pf ?_;simp only[gq];refine q_ne ?_;simp only[ne_eq,not_true_eq_false,decide_false];refine q_pf ?_;simp only[gq];refine q_do _ (fun _=>run_fa fo_i2) (q_do _ (fun _=>run_fa fo_o3) (q_at (.string ⟨rG.1.obj.s.toArray⟩) (fun W h=>run_load_cell nStr5 (h.cell 2 rfl 5 rfl)) ?_));rw[hG.1];refine q_sne (a:=[97,98,99]) (b:=[97,98,99]) ?_;simp only[ne_eq,not_true_eq_false,decide_false];refine q_pf ?_;simp only[gq];obtain⟨gcs,hgs⟩:=ov7.slices;have hks:=hgs.keys.le hle7;rw[hG.2.1] at hks;refine q_do _ (fun _=>run_fa fo_i2) (q_do _ (fun _=>run_fa fo_o4) (q_at gk (fun W h=>run_load_cell nSlS5 (h.cell 2 rfl 6 rfl)) ?_));refine q_at (.int .i64 0) (fun W h=>run_sl_len Tryz.underlying22 (hks.now (h.hasM 5 rfl))) (q_ne ?_);simp only[ne_eq,not_true_eq_false,decide_false];refine q_pf ?_;simp only[gq];rw[hG.2.2];refine q_ne ?_;simp only[ne_eq,not_true_eq_false,decide_false];refine q_pf ?_;simp only[gq];refine q_ne ?_;simp only[ne_eq,not_true_eq_false,decide_false];refine q_pf ?_;simp only[gq];refine q_ne ?_;simp only[ne_eq,not_true_eq_false,decide_false];refine q_pf ?_;simp only[gq];refine q_ne ?_;simp only[ne_eq,not_true_eq_false,decide_false];refine q_pf ?_;simp only[gq];refine q_ne ?_;simp only[ne_eq,not_true_eq_false,decide_false];refine q_pf ?_;clear ho ln;intro w19 ho;have ho:OwnS (Mem.all w).A w w19 [obE b40 rL.1 lk lc,obE b38 rK.1 kk kc,itE b23 rG.1 gk gc,itE b20 Bd.heldI fk fc,itE b5 rA.1 ak ac,.mem N13]:=ho;simp only[rs,fa_o0,fa_o1,ob_k ho 1 rfl,ob_n ho 1 rfl,ob_k ho 0 rfl,hKK.1,hKK.2.1,hKK.2.2,hL.1,hL.2,decide_true];refine c_below ho (R:=fun v=>v=itV Bd.heldI nilS nilS) (held_ret w19) ?_;rintro _ w20 rfl ho;refine c_below ho (R:=fun v=>v=.int .i64 (Bd.check Bd.heldI)) (bCheck_ret Bd.heldI w20 (by decide) heldO_ov) ?_;rintro _ w21 rfl ho;have m3:∀{PK:PKT} {K:VWP},DoX prog (mBuild 25 #[(0,.int .i64 8),(1,.int .i64 1)]) w21 PK K=K (obV (.mk 8 1 0 [] [] []) nilS nilS) w21:=do_eq (by kernel_rfl);have m4:∀{PK:PKT} {K:VWP},DoX prog (mBuild 27 #[(0,.int .i64 1),(2,obV (.mk 8 1 0 [] [] []) nilS nilS)]) w21 PK K=K (itV ⟨1,0,.mk 8 1 0 [] [] []⟩ nilS nilS) w21:=do_eq (by kernel_rfl);rw[show Bd.check Bd.heldI=0 from Bd.smp18];simp only[rs,decide_true,m3,m4];refine c_below ho (R:=fun v=>v=.int .i64 (Bd.check ⟨1,0,.mk 8 1 0 [] [] []⟩)) (bCheck_ret ⟨1,0,.mk 8 1 0 [] [] []⟩ w21 (by decide) (ob1_ov2 (k:=8) (n:=1) (g:=0) (s:=[]))) ?_;rintro _ w22 rfl ho;rw[Bd.smp19];simp only[rs,decide_true];exact hK _ _ ⟨rfl,(ho.toGives 5 rfl hle hM).below⟩
end
end Go.Proofs.YtkejpieaafeblaaGreatDoor

namespace Go.Proofs.YtkejpieaafeblaaGreatDoor
section
open Eng Go.RowKit
namespace Bd
theorem text_check {i:It}(h:(text i).2=0):check i=0:=by
 by_cases hc:check i=0
 ·exact hc
 ·rw[text_eq,if_pos hc] at h;exact absurd h hc
theorem may_ok {i:It}(h:(mayR i).2=true):(mayR i).1=(text i).1∧check i=0∧(text i).2=0∧(text i).1.length≤6000∧i.obj.s.length≤2000:=by
 unfold mayR at h ⊢;split at h
 ·cases h
 rename_i hn
 rw[if_neg hn];simp only[Bool.and_eq_true,decide_eq_true_eq] at h;exact⟨rfl,text_check h.1,h.1,h.2,by omega⟩
end Bd
theorem bodyCut_ret (i:It)(vk vc:Value)(n:Int)(W:World)(ht:Tb W)(hv:OV (InW W) W (obV i.obj vk vc) i.obj)(hw:i.obj.wt≤50000000) :
  Ret prog 5 #[itV i vk vc,.int .i64 n] W (fun v w'=>v=.bool true∧Below W.heap.size W w'):=by
 refine ret_of fun K hK=>S_foliantlaw08_BodyCut_ok ?_;unfold S_foliantlaw08_BodyCut;have hM:(Mem.all W).has W:=Mem.all_has W;have hv:OV (Mem.all W).A (Mem.all W).w (obV i.obj vk vc) i.obj:=hv;refine o_itb i hv.oneK hv.oneC (OwnS.memS hM) fun b2 w1 ho=>?_;have ho:OwnS (Mem.all W).A W w1 [itE b2 i vk vc,.mem (Mem.all W)]:=ho;have tb:∀{w:World} {L:List Ent} {N:Mem} (j:Nat),OwnS (Mem.all W).A W w L→L[j]?=some (.mem N)→(Mem.all W).le N→Tb w:=fun j ho hj hle=>ht.mono (ho.toGives j hj hle hM).below;refine c_below ho (R:=fun v=>v=.bool true) (lives08_ret w1 (tb 1 ho rfl (Mem.all W).le_refl)) ?_;rintro _ w2 rfl ho;simp only[rs,Bool.not_true];rw[it_v ho 0 rfl];refine c_below ho (R:=fun v=>v=.tuple #[.string ⟨(Bd.mayR i).1.toArray⟩,.bool (Bd.mayR i).2]) (bmay_ret i (Mem.all W) w2 (tb 1 ho rfl (Mem.all W).le_refl) hw (ho.hasM 1 rfl) hv) ?_;rintro _ w3 rfl ho;simp only[ex];have out:∀{w:World},OwnS (Mem.all W).A W w [itE b2 i vk vc,.mem (Mem.all W)]→K (.returned (.bool true)) w:=fun ho=>hK _ _ ⟨rfl,(ho.toGives 1 rfl (Mem.all W).le_refl hM).below⟩;cases hm:(Bd.mayR i).2 with
|false=>
  simp only[rs,Bool.not_false,g_un];exact out ho
|true=>
  obtain⟨e1,hc,ht2,htl,hsl⟩:=Bd.may_ok hm;rw[e1];simp only[rs,Bool.not_true,s_len Tryz.underlying9];by_cases h1:n < 0
  ·simp only[decide_eq_true h1,rs,g_un];exact out ho
  have q2:IntKind.wrap .i64 (((Bd.text i).1.length:Int) - 1)=((Bd.text i).1.length:Int) - 1:=wrap64_id (by omega) (by omega);simp only[decide_eq_false h1,rs,s_len Tryz.underlying9,q2];by_cases h2:((Bd.text i).1.length:Int) - 1≤n
  ·simp only[decide_eq_true h2,rs];exact out ho
  simp only[decide_eq_false h2,rs];obtain⟨m,rfl⟩:∃m:Nat,n=m:=⟨n.toNat,by omega⟩;obtain⟨e,he,hcut⟩:=Bd.cut_bad hc ht2 (n:=m) (by omega);rw[s_upto Tryz.underlying9 (by omega) (by omega),Int.toNat_natCast];refine c_bread (s:=(Bd.text i).1.take m) 1 ho rfl (by rw[List.length_take];omega) fun b7 k1 c1 N1 w4 g1 ov1 ho=>?_;rw[hcut] at ov1 ho ⊢;have ho:OwnS (Mem.all W).A W w4 [itE b7 Dk.it0 k1 c1,itE b2 i vk vc,.mem N1]:=ho;have ov1:OV N1.A N1.w (obV Vl.ob0 k1 c1) Vl.ob0:=ov1;have m0:∀{PK:PKT} {K:VWP},DoX prog (mBuild 27 #[]) w4 PK K=K (itV Dk.it0 nilS nilS) w4:=m_it0;simp only[Bd.bad,rs,decide_eq_true (show e≠0 from he),decide_true,it_v ho 0 rfl,m0];refine c_below ho (R:=fun v=>v=.bool (Bd.sameI Dk.it0 Dk.it0)) (bsameI_ret Dk.it0 Dk.it0 w4 (by decide) (OV.inw (ho.hasM 2 rfl) ov1) ob0_ov2) ?_;rintro _ w5 rfl ho;rw[Bd.sameI_iff Dk.it0 Dk.it0 |>.2 rfl]
  try simp only[rs]
  exact hK _ _ ⟨rfl,(ho.toGives 2 rfl g1 hM).below⟩
end
end Go.Proofs.YtkejpieaafeblaaGreatDoor


namespace Go.Proofs.YtkejpieaafeblaaGreatDoor
section
open Eng Go.RowKit Go.ChangeShapes Go.WideShapes Go.ChangeAt
set_option maxRecDepth 100000
theorem list3i {α:Type}:∀{l:List α},l.length=3→∃a b c,l=[a,b,c]
|[a,b,c],_=>⟨a,b,c,rfl⟩
theorem list8i {α:Type}:∀{l:List α},l.length=8→∃a b c d e f g h,l=[a,b,c,d,e,f,g,h]
|[a,b,c,d,e,f,g,h],_=>⟨a,b,c,d,e,f,g,h,rfl⟩
section
variable {H:Type}{enc:TypeId×Value→H}{W:World}{sp:Nat→Bool}{held:Bool}
theorem row_item {b0:Nat}{v:Value}{d:DataW H}{ps:List MemPlace}(hval:Value.okWide prog W .any b0 27 v)(hd:DataW.Trod enc prog W 0 sp held 27 v d ps) :
  ∃(i:It) (vk vc:Value),v=itV i vk vc∧OV (InW W) W (obV i.obj vk vc) i.obj∧i.obj.wt≤Rows.uptoBulk d:=by
 obtain⟨cs,rfl,_⟩:=okWide_struct Tryz.underlying27 hval;obtain⟨fuel,h⟩:=hd;have h:DataW.trod enc prog W 0 sp held fuel 27 cs.toList=some (d,ps):=h;obtain⟨xs,n,rfl,hdd,hl,hxl,hf⟩:=DataW.trod_struct Tryz.underlying27 h;have c8:Tryz.prog.cellsOf 27=8:=by kernel_rfl
 rw[c8] at hl;have hxl:xs.length=3:=hxl;obtain⟨x0,x1,x2,rfl⟩:=list3i hxl;obtain⟨v0,v1,v2,v3,v4,v5,v6,v7,hcs⟩:=list8i hl;rw[hcs] at hf;have e0:=hf 0 _ rfl;have e1:=hf 1 _ rfl;have e2:=hf 2 _ rfl;have k0:Tryz.prog.cellsOf 3=1:=by kernel_rfl
 have k6:Tryz.prog.cellsOf 25=6:=by kernel_rfl
 simp only[k0,k6,List.drop_zero,List.drop_succ_cons,List.take_succ_cons,List.take_zero,List.getElem?_cons_zero,List.getElem?_cons_succ] at e0 e1 e2;obtain⟨m,hm,_,_⟩:=DataW.trod_int Tryz.underlying3 e0;obtain⟨g,hg,_,_⟩:=DataW.trod_int Tryz.underlying3 e1;obtain⟨o,h1,h2,h3⟩:=open_obj _ _ _ e2
 injection hm with hm _
 injection hg with hg _
 subst hm;subst hg;obtain⟨vk,vc,ocs,he,ha⟩:=h1.open;have he:[v2,v3,v4,v5,v6,v7]=obC o vk vc:=by
  have:[v2,v3,v4,v5,v6,v7].toArray=(obC o vk vc).toArray:=by injection he
  simpa using congrArg Array.toList this
 have hb:Rows.uptoBulk x2.1≤Rows.uptoBulk d:=by
  have hdd:d=_:=congrArg Prod.fst hdd;rw[hdd];simp only[Rows.uptoBulk,List.map_cons,List.map_nil,Rows.uptoBulkAll];omega
 refine⟨⟨m,g,o⟩,vk,vc,?_,ha.ov,?_⟩
 ·rw[itV,itC];show Value.agg cs=.agg (Value.int .i64 m::Value.int .i64 g::obC o vk vc).toArray;rw[←he];have:cs=cs.toList.toArray:=by simp
  rw[this,hcs]
 ·show o.wt≤_;omega
end
end
end Go.Proofs.YtkejpieaafeblaaGreatDoor

