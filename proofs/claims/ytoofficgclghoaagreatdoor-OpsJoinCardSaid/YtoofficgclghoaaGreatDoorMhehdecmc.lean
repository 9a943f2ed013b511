/- Texts that go together: Plain43B Plain43C Plain43D Plain43E Plain43F Plain43G OpA SOps SRef43 SNum OpB OpC OpD OpE OpF OpG OpH OpI OpJ OpK. -/
import Derived.Test.YtoofficgclghoaaGreatDoorRows
import Derived.Test.YtoofficgclghoaaGreatDoorMdemjkfdl
import Derived.Test.YtoofficgclghoaaGreatDoorMapflelmb
import Derived.Test.YtoofficgclghoaaGreatDoorMimbnmllp
import Derived.Test.YtoofficgclghoaaGreatDoorMbkclijmb
set_option linter.defProp false
set_option linter.unusedSimpArgs false
set_option linter.unusedVariables false
set_option maxRecDepth 20000
open Go.Proofs.Tryz (prog)
namespace Go.Proofs.YtoofficgclghoaaGreatDoor
section
open Go
namespace Cs
open Lx (next Tok Single token skip)
def sh (n:Nat)(x:Tok×Int):Tok×Int:=if x.2=0 then ({ x.1 with a:=x.1.a+n,t:=x.1.t+n },0) else x
theorem drop_pre (p s:List UInt8)(i:Nat):(p++s).drop (p.length+i)=s.drop i:=by rw[←List.drop_drop,List.drop_left]
theorem cut_pre (p s:List UInt8)(i j:Nat):Lx.cut (p++s) (p.length+i) (p.length+j)=Lx.cut s i j:=by
 unfold Lx.cut;rw[drop_pre,show p.length+j - (p.length+i)=j - i by omega]
theorem run_pre (p s:List UInt8)(i:Nat):Lx.run (p++s) (p.length+i)=p.length+Lx.run s i:=by
 unfold Lx.run;rw[drop_pre];omega
theorem skip_pre (p s:List UInt8)(i:Nat):skip (p++s) (p.length+i)=p.length+skip s i:=by
 unfold skip;rw[drop_pre];omega
theorem refused_pre (n:Nat){e:Int}(he:e≠0):Lx.refused e=sh n (Lx.refused e):=by
 unfold sh Lx.refused;rw[if_neg he]
theorem told_pre (n:Nat)(k a t:Int)(x:List UInt8)(m:Int):Lx.told k (n+a) (n+t) x m=sh n (Lx.told k a t x m):=by
 unfold Lx.told;split
 ·exact refused_pre n (by decide)
 ·unfold sh;simp[Int.add_comm]
theorem wordT_pre (n:Nat)(t:List UInt8)(a b:Int):Lx.wordT t (n+a) (n+b)=sh n (Lx.wordT t a b):=by
 unfold Lx.wordT;split
 ·split
  ·rename_i h;exact refused_pre n h
  ·unfold sh;simp[Int.add_comm]
 split
 ·unfold sh;simp[Int.add_comm]
 split
 ·exact refused_pre n (by decide)
 ·exact told_pre n 5 a b t 127
theorem hexF_err:∀(l:List UInt8) (h e:Int),Lx.hexF h l=.inr e→e≠0
|[],h,e,he=>by simp[Lx.hexF] at he;omega
|c::t,h,e,he=>by
  unfold Lx.hexF at he;split at he
  ·cases he
  split at he
  ·cases hr:Lx.hexF h t with
  |inl r=>rw[hr] at he;cases he
  |inr e'=>rw[hr] at he;cases he;exact hexF_err t h e hr
  split at he
  ·cases he;decide
  split at he
  ·cases hr:Lx.hexF (Lx.digit c) t with
  |inl r=>rw[hr] at he;cases he
  |inr e'=>rw[hr] at he;cases he;exact hexF_err t _ e hr
  ·cases hr:Lx.hexF (-1) t with
  |inl r=>rw[hr] at he;cases he
  |inr e'=>rw[hr] at he;cases he;exact hexF_err t _ e hr
theorem token_pre (p s:List UInt8)(a:Nat):token (p++s) (p.length+a)=sh p.length (token s a):=by
 unfold token;rw[drop_pre];cases hd:s.drop a with
|nil=>simp only[sh,if_pos];simp[Int.add_comm]
|cons c t=>
  simp only;have hmark:∀n,Lx.mark (p++s) (p.length+a) n=sh p.length (Lx.mark s a n):=by
   intro n;unfold Lx.mark sh;simp only[if_pos];rw[Nat.add_assoc,cut_pre];simp only[Prod.mk.injEq,and_true]
   congr 1<;>omega
  split
  ·exact hmark 1
  split
  ·split
   ·exact hmark 2
   ·unfold Lx.hex;rw[Nat.add_assoc,drop_pre];cases hr:Lx.hexF (-1) (s.drop (a+1)) with
   |inr e=>exact refused_pre _ (hexF_err _ _ _ hr)
   |inl r=>
     simp only;rw[←told_pre]
     congr 1<;>omega
  split
  ·split
   ·exact hmark 2
   ·exact refused_pre _ (by decide)
  split
  ·unfold Lx.name;rw[Nat.add_assoc,run_pre,cut_pre];cases hr:Lx.nameF (Lx.cut s (a+1) (Lx.run s (a+1))) with
  |none=>exact refused_pre _ (by decide)
  |some x=>
    simp only;rw[←told_pre]
    congr 1<;>omega
  split
  ·unfold Lx.text;rw[Nat.add_assoc,drop_pre];cases hr:Lx.textG 0 1 (s.drop (a+1)) with
  |none=>exact refused_pre _ (by decide)
  |some r=>
    simp only;rw[←told_pre]
    congr 1<;>omega
  split
  ·exact refused_pre _ (by decide)
  ·unfold Lx.word;rw[run_pre,cut_pre,←wordT_pre]
   congr 1<;>omega
theorem next_pre (p s:List UInt8){a:Int}(h0:0≤a):next (p++s) (p.length+a)=sh p.length (next s a):=by
 unfold next
 by_cases h:(s.length:Int) < a
 ·rw[if_pos (.inr (by rw[List.length_append];omega)),if_pos (.inr h)];exact refused_pre _ (by decide)
 ·rw[if_neg (by rw[List.length_append];omega),if_neg (by omega)];obtain⟨n,rfl⟩:∃n:Nat,a=n:=⟨a.toNat,by omega⟩;rw[show ((p.length:Int)+(n:Int)).toNat=p.length+n by omega,Int.toNat_natCast,skip_pre,token_pre]
theorem skipI_pre (p s:List UInt8){a:Int}(h0:0≤a):Lx.skipI (p++s) (p.length+a)=p.length+Lx.skipI s a:=by
 unfold Lx.skipI;by_cases h:(s.length:Int) < a
 ·rw[if_pos (.inr (by rw[List.length_append];omega)),if_pos (.inr h)]
 ·rw[if_neg (by rw[List.length_append];omega),if_neg (by omega)];obtain⟨n,rfl⟩:∃n:Nat,a=n:=⟨a.toNat,by omega⟩;rw[show ((p.length:Int)+(n:Int)).toNat=p.length+n by omega,Int.toNat_natCast,skip_pre];omega
theorem sh_e (n:Nat)(x:Tok×Int):(sh n x).2=x.2:=by unfold sh;split<;>first|rfl|(rename_i h;exact h.symm)
theorem sh_k (n:Nat)(x:Tok×Int):(sh n x).1.k=x.1.k:=by unfold sh;split<;>rfl
theorem sh_s (n:Nat)(x:Tok×Int):(sh n x).1.s=x.1.s:=by unfold sh;split<;>rfl
theorem sh_n (n:Nat)(x:Tok×Int):(sh n x).1.n=x.1.n:=by unfold sh;split<;>rfl
theorem sh_t {n:Nat}{x:Tok×Int}(h:x.2=0):(sh n x).1.t=n+x.1.t:=by unfold sh;rw[if_pos h];show x.1.t+n=_;omega
theorem sh_a {n:Nat}{x:Tok×Int}(h:x.2=0):(sh n x).1.a=n+x.1.a:=by unfold sh;rw[if_pos h];show x.1.a+n=_;omega
open Ps (R bad)
def shR (n:Nat)(x:R):R:=(x.1,if x.2.2=0 then n+x.2.1 else x.2.1,x.2.2)
theorem shR_bad (n:Nat){e:Int}(he:e≠0):shR n (bad e)=bad e:=by unfold shR bad;simp[he]
theorem begins_sh (n:Nat)(x:Tok×Int):Ps.begins (sh n x).1=Ps.begins x.1:=by unfold Ps.begins;rw[sh_k,sh_s]
theorem ref_pre (p s:List UInt8){x:Tok×Int}(hx:x.2=0)(h0:0≤x.1.t):Ps.ref (p++s) (sh p.length x).1=(Ps.ref s x.1).map fun q=>(q.1,(p.length:Int)+q.2):=by
 unfold Ps.ref;rw[sh_n,sh_t hx,next_pre p s h0];split
 ·rfl
 rw[sh_e,sh_k,sh_n];split
 ·rfl
 rename_i h1
 simp only[not_or,Classical.not_not] at h1;have hb:=Lx.next_bd h1.1 (by rw[h1.2.1];decide);rw[sh_t h1.1,next_pre p s (by omega),sh_e,sh_k,sh_s];split
 ·rename_i h2
  simp only[Option.map_some];rw[sh_t h2.1]
 ·rfl
theorem leaf_pre (p s:List UInt8){x:Tok×Int}(hx:x.2=0)(h0:0≤x.1.t):Ps.leaf (p++s) (sh p.length x).1=shR p.length (Ps.leaf s x.1):=by
 unfold Ps.leaf;rw[sh_k,sh_n,sh_s,sh_t hx,ref_pre p s hx h0];split
 ·cases Ps.ref s x.1 with
 |none=>simp[shR]
 |some q=>simp[shR]
 all_goals (repeat' split)<;>simp[shR]
def Pre (p s:List UInt8)(sub sub':Int→R):Prop:=∀a,0≤a→sub' (p.length+a)=shR p.length (sub a)
theorem arr_pre (p s:List UInt8){ok:Bool}{sub sub':Int→R}(hg:Ps.Good s sub)(hs:Pre p s sub sub'):∀(m m':Nat) (a:Int) (acc:List Ob),0≤a→(s.length:Int)+1≤a+m→(s.length:Int)+1≤a+m'→1≤m→1≤m' →
  Ps.arr (p++s) ok sub' m' (p.length+a) acc=shR p.length (Ps.arr s ok sub m a acc)
|0,_,a,acc,_,_,_,h,_=>by omega
|_+1,0,a,acc,_,_,_,_,h=>by omega
|m+1,m'+1,a,acc,h0,hm,hm',_,_=>by
  rw[Ps.arr,Ps.arr,next_pre p s h0,sh_e,sh_k,sh_s,begins_sh];split
  ·rename_i h1
   rw[sh_t h1.1];simp[shR]
  split
  ·exact (shR_bad _ (by decide)).symm
  split
  ·rename_i h1;exact (shR_bad _ h1).symm
  rw[hs a h0];have e:(shR p.length (sub a)).2.2=(sub a).2.2:=rfl;rw[e];split
  ·rename_i h1;exact (shR_bad _ h1).symm
  ·rename_i h1
   have h1:(sub a).2.2=0:=Classical.not_not.1 h1;have hb:=hg a h1;have e2:(shR p.length (sub a)).2.1=p.length+(sub a).2.1:=by unfold shR;rw[if_pos h1]
   have e1:(shR p.length (sub a)).1=(sub a).1:=rfl;rw[e2,e1];exact arr_pre p s hg hs m m' _ _ (by omega) (by omega) (by omega) (by omega) (by omega)
theorem dict_pre (p s:List UInt8){sub sub':Int→R}(hg:Ps.Good s sub)(hs:Pre p s sub sub'):∀(m m':Nat) (a:Int) (o:Ob) (met:List (List UInt8)),0≤a→(s.length:Int)+1≤a+m→(s.length:Int)+1≤a+m'→1≤m→1≤m' →
  Ps.dict (p++s) sub' m' (p.length+a) o met=shR p.length (Ps.dict s sub m a o met)
|0,_,a,o,met,_,_,_,h,_=>by omega
|_+1,0,a,o,met,_,_,_,_,h=>by omega
|m+1,m'+1,a,o,met,h0,hm,hm',_,_=>by
  rw[Ps.dict,Ps.dict,next_pre p s h0,sh_e,sh_k,sh_s];split
  ·rename_i h1;exact (shR_bad _ h1).symm
  rename_i hz
  have hz:(next s a).2=0:=Classical.not_not.1 hz;rw[sh_t hz];split
  ·simp[shR]
  split
  ·exact (shR_bad _ (by decide)).symm
  rename_i hk
  split
  ·exact (shR_bad _ (by decide)).symm
  split
  ·exact (shR_bad _ (by decide)).symm
  split
  ·exact (shR_bad _ (by decide)).symm
  have hb:=Lx.next_bd hz hk;have hsk:=Lx.skip_ge s a.toNat;rw[hs _ (by omega)];have e:(shR p.length (sub (next s a).1.t)).2.2=(sub (next s a).1.t).2.2:=rfl;rw[e];split
  ·rename_i h1;exact (shR_bad _ h1).symm
  ·rename_i h1
   have h1:(sub (next s a).1.t).2.2=0:=Classical.not_not.1 h1;have hb2:=hg _ h1;have e2:(shR p.length (sub (next s a).1.t)).2.1=p.length+(sub (next s a).1.t).2.1:=by unfold shR;rw[if_pos h1]
   have e1:(shR p.length (sub (next s a).1.t)).1=(sub (next s a).1.t).1:=rfl;rw[e2,e1];exact dict_pre p s hg hs m m' _ _ _ (by omega) (by omega) (by omega) (by omega) (by omega)
theorem obj_pre (p s:List UInt8):∀n,Pre p s (Ps.obj s n) (Ps.obj (p++s) n):=by
 intro n
 induction n with
|zero=>
  intro a h0;rw[Ps.obj,Ps.obj,next_pre p s h0,sh_e,sh_k,begins_sh];split
  ·rename_i h1;exact (shR_bad _ h1).symm
  split
  ·exact (shR_bad _ (by decide)).symm
  split
  ·exact (shR_bad _ (by decide)).symm
  ·exact (shR_bad _ (by decide)).symm
|succ n ih=>
  intro a h0;rw[Ps.obj,Ps.obj,next_pre p s h0,sh_e,sh_k,sh_s,begins_sh];split
  ·rename_i h1;exact (shR_bad _ h1).symm
  rename_i hz
  have hz:(next s a).2=0:=Classical.not_not.1 hz;split
  ·exact (shR_bad _ (by decide)).symm
  rename_i hk
  have hb:=Lx.next_bd hz hk;split
  ·exact (shR_bad _ (by decide)).symm
  split
  ·exact leaf_pre p s hz (by omega)
  rw[sh_t hz];split
  ·exact arr_pre p s (Ps.obj_good s n) ih _ _ _ _ (by omega) (by omega) (by rw[List.length_append];omega) (by omega) (by omega)
  ·exact dict_pre p s (Ps.obj_good s n) ih _ _ _ _ _ (by omega) (by omega) (by rw[List.length_append];omega) (by omega) (by omega)
theorem object_pre (p s:List UInt8){a:Int}(h0:0≤a):Ps.object (p++s) (p.length+a)=shR p.length (Ps.object s a):=by
 unfold Ps.object;by_cases h:(s.length:Int) < a
 ·rw[if_pos (.inr (by rw[List.length_append];omega)),if_pos (.inr h)];exact (shR_bad _ (by decide)).symm
 ·rw[if_neg (by rw[List.length_append];omega),if_neg (by omega)];exact obj_pre p s 24 a h0
end Cs
end
section
open Go
namespace Cs
open Lx (next Tok Single token skip)
theorem keys_ok {s:List UInt8}{m:Nat}{a:Int}{o:Ob}{met:List (List UInt8)}(h:(keys s (m+1) a o met).2.2.e=0):(next s a).2=0∧(next s a).1.k≠0 ∧
  ((((next s a).1.k=5∧(next s a).1.s=idW)∧keys s (m+1) a o met=(o,(next s a).1.t,ok)) ∨
   ((next s a).1.k=4∧(next s a).1.s ∉ met∧met.length≠8191∧(next s (next s a).1.t).2=0∧(next s (next s a).1.t).1.k≠0∧(Ps.object s (next s a).1.t).2.2=0∧refers (Ps.object s (next s a).1.t).1=false∧depth (Ps.object s (next s a).1.t).1 < 24 ∧
   keys s (m+1) a o met=keys s m (Ps.object s (next s a).1.t).2.1 (Ps.join o (next s a).1.s (Ps.object s (next s a).1.t).1) (met++[(next s a).1.s]))):=by
 rw[keys] at h ⊢;by_cases h1:(next s a).2≠0
 ·rw[if_pos h1] at h;exact absurd h h1
 rw[if_neg h1] at h ⊢;by_cases h2:(next s a).1.k=0
 ·rw[if_pos h2] at h;simp at h
 rw[if_neg h2] at h ⊢;refine⟨Classical.not_not.1 h1,h2,?_⟩;by_cases h3:(next s a).1.k=5∧(next s a).1.s=idW
 ·rw[if_pos h3];exact .inl ⟨h3,rfl⟩
 rw[if_neg h3] at h ⊢;by_cases h4:(next s a).1.k≠4
 ·rw[if_pos h4] at h;simp at h
 rw[if_neg h4] at h ⊢;by_cases h5:(next s a).1.s∈met
 ·rw[if_pos h5] at h;simp at h
 rw[if_neg h5] at h ⊢;by_cases h6:met.length=8191
 ·rw[if_pos h6] at h;simp at h
 rw[if_neg h6] at h ⊢;by_cases h7:(next s (next s a).1.t).2≠0
 ·rw[if_pos h7] at h;exact absurd h h7
 rw[if_neg h7] at h ⊢;by_cases h8:(next s (next s a).1.t).1.k=0
 ·rw[if_pos h8] at h;simp at h
 rw[if_neg h8] at h ⊢;by_cases h9:(Ps.object s (next s a).1.t).2.2≠0
 ·rw[if_pos h9] at h;exact absurd h h9
 rw[if_neg h9] at h ⊢;by_cases h10:refers (Ps.object s (next s a).1.t).1=true
 ·rw[if_pos h10] at h;simp at h
 rw[if_neg h10] at h ⊢;by_cases h11:24≤depth (Ps.object s (next s a).1.t).1
 ·rw[if_pos h11] at h;simp at h
 rw[if_neg h11];exact .inr ⟨Classical.not_not.1 h4,h5,h6,Classical.not_not.1 h7,h8,Classical.not_not.1 h9,by simpa using h10,by omega,rfl⟩
theorem keys_bd {s:List UInt8}:∀(m:Nat) {a:Int} {o:Ob} {met:List (List UInt8)},(keys s m a o met).2.2.e=0→0≤a∧a < (keys s m a o met).2.1∧(keys s m a o met).2.1≤s.length
|0,a,o,met,h=>by simp[keys] at h
|m+1,a,o,met,h=>by
  obtain⟨h1,h2,h3⟩:=keys_ok h;have b:=Lx.next_bd h1 h2;have:=Lx.skip_ge s a.toNat;rcases h3 with ⟨_,e⟩|⟨_,_,_,g1,g2,g3,_,_,e⟩
  ·rw[e];exact⟨by omega,by show a < (next s a).1.t;omega,b.2.2.2.2⟩
  ·rw[e] at h ⊢;have c:=Bd.object_bd g3;have:=keys_bd m h;omega
theorem findE_ok {s:List UInt8}:∀(m:Nat) {a i:Nat},findE s m a=some i→a≤i∧ends s i=true∧∀j,a≤j→j < i→ends s j=false
|0,a,i,h=>by simp[findE] at h
|m+1,a,i,h=>by
  rw[findE] at h;split at h
  ·cases h
  split at h
  ·rename_i h1
   cases h;exact⟨Nat.le_refl _,h1,fun j h2 h3=>by omega⟩
  ·rename_i h1
   obtain⟨g1,g2,g3⟩:=findE_ok m h;refine⟨by omega,g2,fun j h2 h3=>?_⟩;by_cases hj:j=a
   ·subst hj;simpa using h1
   ·exact g3 j (by omega) h3
theorem ends_len {s:List UInt8}{a:Nat}(h:ends s a=true):a+3≤s.length:=by
 unfold ends at h;split at h
 ·rename_i w e i r hd
  have:=congrArg List.length hd;rw[List.length_drop] at this;simp only[List.length_cons] at this;omega
 ·cases h
theorem findE_is {s:List UInt8}{i:Nat}(hi:ends s i=true):∀(m a:Nat),a≤i→(∀j,a≤j→j < i→ends s j=false)→i < a+m→findE s m a=some i
|0,a,h1,_,h=>by omega
|m+1,a,h1,h2,h=>by
  have:=ends_len hi;rw[findE,if_neg (by omega)];by_cases he:a=i
  ·subst he;rw[if_pos hi]
  ·rw[if_neg (by rw[h2 a (by omega) (by omega)];decide)];exact findE_is hi m (a+1) (by omega) (fun j h3 h4=>h2 j (by omega) h4) (by omega)
theorem image_ok {s:List UInt8}{a:Int}(h:(image s a).2.2.e=0):(keys s (s.length+1) a Ps.dict0 []).2.2.e=0∧whiteAt s (keys s (s.length+1) a Ps.dict0 []).2.1=true ∧
  ∃i,findE s (s.length+1) ((keys s (s.length+1) a Ps.dict0 []).2.1.toNat+1)=some i∧image s a=(⟨biW,[(keys s (s.length+1) a Ps.dict0 []).1],(s.drop ((keys s (s.length+1) a Ps.dict0 []).2.1.toNat+1)).take (i - ((keys s (s.length+1) a Ps.dict0 []).2.1.toNat+1))⟩,(i:Int)+3,ok):=by
 unfold image at h ⊢;simp only at h ⊢;split at h
 ·rename_i h1;exact absurd h h1
 rename_i h1
 rw[if_neg h1];split at h
 ·simp at h
 rename_i h2
 rw[if_neg h2];refine⟨Classical.not_not.1 h1,by simpa using h2,?_⟩;cases hf:findE s (s.length+1) ((keys s (s.length+1) a Ps.dict0 []).2.1.toNat+1) with
|none=>rw[hf] at h;simp at h
|some i=>exact⟨i,rfl,rfl⟩
theorem image_bd {s:List UInt8}{a:Int}(h:(image s a).2.2.e=0):0≤a∧a < (image s a).2.1∧(image s a).2.1≤s.length:=by
 obtain⟨h1,h2,i,h3,h4⟩:=image_ok h;have b:=keys_bd _ h1;obtain⟨f1,f2,_⟩:=findE_ok _ h3;have:=ends_len f2;rw[h4];show 0≤a∧a < (i:Int)+3∧(i:Int)+3≤s.length;omega
theorem operator_ok {s:List UInt8}{t:Tok}{n:Nat}{args:List Ob}(h:(operator s t n args).2.2.e=0):n < 8191 ∧
  ((t.s=biW∧args=[]∧operator s t n args=image s t.t)∨(t.s≠biW∧t.s≠idW∧t.s≠eiW∧t.s≠rW∧operator s t n args=(⟨t.s,args,[]⟩,t.t,ok))):=by
 unfold operator at h ⊢;split at h
 ·simp at h
 rename_i h1
 rw[if_neg h1];refine⟨by omega,?_⟩;split at h
 ·rename_i h2
  rw[if_pos h2];split at h
  ·simp at h
  ·rename_i h3
   rw[if_neg h3];exact .inl ⟨h2,Classical.not_not.1 h3,rfl⟩
 rename_i h2
 rw[if_neg h2];split at h
 ·simp at h
 rename_i h3
 rw[if_neg h3];simp only[not_or] at h3;exact .inr ⟨h2,h3.1,h3.2.1,h3.2.2,rfl⟩
theorem operator_bd {s:List UInt8}{a:Int}{n:Nat}{args:List Ob}(h1:(next s a).2=0)(h2:(next s a).1.k≠0)(h:(operator s (next s a).1 n args).2.2.e=0):0≤a∧a < (operator s (next s a).1 n args).2.1∧(operator s (next s a).1 n args).2.1≤s.length:=by
 have b:=Lx.next_bd h1 h2;have:=Lx.skip_ge s a.toNat;obtain⟨_,h3⟩:=operator_ok h;rcases h3 with ⟨_,_,e⟩|⟨_,_,_,_,e⟩
 ·rw[e] at h ⊢;have:=image_bd h;omega
 ·rw[e];exact⟨by omega,by show a < (next s a).1.t;omega,b.2.2.2.2⟩
theorem readG_ok {s:List UInt8}{m:Nat}{a:Int}{l:List Cop}{args:List Ob}(h:(readG s (m+1) a l args).2.e=0):(next s a).2=0 ∧
  (((next s a).1.k=0∧args=[]∧readG s (m+1) a l args=(l,ok)) ∨
   ((next s a).1.k=5∧constant (next s a).1.s=false∧(operator s (next s a).1 l.length args).2.2.e=0 ∧
    readG s (m+1) a l args=readG s m (operator s (next s a).1 l.length args).2.1 (l++[(operator s (next s a).1 l.length args).1]) []) ∨
   ((next s a).1.k≠0∧¬((next s a).1.k=5∧constant (next s a).1.s=false)∧(Ps.object s a).2.2=0∧refers (Ps.object s a).1=false∧args.length < 32 ∧
    readG s (m+1) a l args=readG s m (Ps.object s a).2.1 l (args++[(Ps.object s a).1]))):=by
 rw[readG] at h ⊢;split at h
 ·rename_i h1;exact absurd h h1
 rename_i h1
 rw[if_neg h1];refine⟨Classical.not_not.1 h1,?_⟩;split at h
 ·rename_i h2
  rw[if_pos h2];split at h
  ·simp at h
  rename_i h3
  rw[if_neg h3];exact .inl ⟨h2,Classical.not_not.1 h3,rfl⟩
 rename_i h2
 rw[if_neg h2];split at h
 ·rename_i h3
  rw[if_pos h3];split at h
  ·rename_i h4;exact absurd h h4
  rename_i h4
  rw[if_neg h4];exact .inr (.inl ⟨h3.1,h3.2,Classical.not_not.1 h4,rfl⟩)
 rename_i h3
 rw[if_neg h3];split at h
 ·rename_i h4;exact absurd h h4
 rename_i h4
 rw[if_neg h4];split at h
 ·simp at h
 rename_i h5
 rw[if_neg h5];split at h
 ·simp at h
 rename_i h6
 rw[if_neg h6];exact .inr (.inr ⟨h2,h3,Classical.not_not.1 h4,by simpa using h5,by omega,rfl⟩)
theorem readG_err {s:List UInt8}:∀(m:Nat) {a:Int} {l:List Cop} {args:List Ob},(readG s m a l args).2.e≠0→(readG s m a l args).1=[]
|0,a,l,args,h=>rfl
|m+1,a,l,args,h=>by
  rw[readG] at h ⊢;split at h
  ·rename_i h1;rw[if_pos h1]
  rename_i h1
  rw[if_neg h1];split at h
  ·rename_i h2
   rw[if_pos h2];split at h
   ·rename_i h3;rw[if_pos h3]
   ·simp[ok] at h
  rename_i h2
  rw[if_neg h2];split at h
  ·rename_i h3
   rw[if_pos h3];split at h
   ·rename_i h4;rw[if_pos h4]
   ·rename_i h4;rw[if_neg h4];exact readG_err m h
  rename_i h3
  rw[if_neg h3];split at h
  ·rename_i h4;rw[if_pos h4]
  rename_i h4
  rw[if_neg h4];split at h
  ·rename_i h5;rw[if_pos h5]
  rename_i h5
  rw[if_neg h5];split at h
  ·rename_i h6;rw[if_pos h6]
  rename_i h6
  rw[if_neg h6];exact readG_err m h
theorem readG_len {s:List UInt8}:∀(m:Nat) {a:Int} {l:List Cop} {args:List Ob},a≤s.length→(readG s m a l args).2.e=0→((readG s m a l args).1.length:Int)≤l.length+(s.length - a)
|0,a,l,args,_,h=>by simp[readG] at h
|m+1,a,l,args,ha,h=>by
  obtain⟨h1,h2⟩:=readG_ok h;rcases h2 with ⟨_,_,e⟩|⟨h3,_,h4,e⟩|⟨h3,_,h4,_,_,e⟩
  ·rw[e];show (l.length:Int)≤_;omega
  ·rw[e] at h ⊢;have b:=operator_bd h1 (by omega) h4;have:=readG_len m (by omega) h;rw[List.length_append] at this;simp only[List.length_cons,List.length_nil] at this;omega
  ·rw[e] at h ⊢;have b:=Bd.object_bd h4;have:=readG_len m (by omega) h;omega
def shF (n:Nat)(f:Flt):Flt:=if f.e=0 then f else ⟨n+f.at_,f.e⟩
def shO {α:Type}(n:Nat)(x:α×Int×Flt):α×Int×Flt:=(x.1,if x.2.2.e=0 then n+x.2.1 else x.2.1,shF n x.2.2)
theorem shO_bad {α:Type}(n:Nat)(x:α)(i a:Int){e:Int}(he:e≠0):shO n (x,i,(⟨a,e⟩:Flt))=(x,i,⟨n+a,e⟩):=by simp[shO,shF,he]
theorem shO_ok {α:Type}(n:Nat)(x:α)(i:Int):shO n (x,i,ok)=(x,n+i,ok):=by simp[shO,shF,ok]
theorem whiteAt_pre (p s:List UInt8){a:Int}(h0:0≤a):whiteAt (p++s) (p.length+a)=whiteAt s a:=by
 unfold whiteAt;rw[decide_eq_true h0,decide_eq_true (show 0≤(p.length:Int)+a by omega),show ((p.length:Int)+a).toNat=p.length+a.toNat by omega,List.getElem?_append_right (by omega),Nat.add_sub_cancel_left]
theorem ends_pre (p s:List UInt8)(a:Nat):ends (p++s) (p.length+a)=ends s a:=by unfold ends;rw[drop_pre]
theorem findE_pre (p s:List UInt8):∀(m m' a:Nat),s.length+1≤a+m→s.length+1≤a+m'→1≤m→1≤m'→findE (p++s) m' (p.length+a)=(findE s m a).map (p.length+·)
|0,_,a,_,_,h,_=>by omega
|_+1,0,a,_,_,_,h=>by omega
|m+1,m'+1,a,h1,h2,_,_=>by
  rw[findE,findE,ends_pre];by_cases h:s.length≤a
  ·rw[if_pos h,if_pos (by rw[List.length_append];omega)];rfl
  rw[if_neg h,if_neg (by rw[List.length_append];omega)];split
  ·rfl
  ·rw[Nat.add_assoc];exact findE_pre p s m m' (a+1) (by omega) (by omega) (by omega) (by omega)
theorem keys_pre (p s:List UInt8):∀(m m':Nat) (a:Int) (o:Ob) (met:List (List UInt8)),0≤a→(s.length:Int)+1≤a+m→(s.length:Int)+1≤a+m'→1≤m→1≤m' →
  keys (p++s) m' (p.length+a) o met=shO p.length (keys s m a o met)
|0,_,a,o,met,_,_,_,h,_=>by omega
|_+1,0,a,o,met,_,_,_,_,h=>by omega
|m+1,m'+1,a,o,met,h0,hm,hm',_,_=>by
  have hlen:((p++s).length:Int)=p.length+s.length:=by rw[List.length_append];omega
  rw[keys,keys,next_pre p s h0,sh_e,sh_k,sh_s,skipI_pre p s h0,hlen];by_cases h1:(next s a).2≠0
  ·rw[if_pos h1,if_pos h1];exact (shO_bad _ _ _ _ h1).symm
  rw[if_neg h1,if_neg h1];have hz:(next s a).2=0:=Classical.not_not.1 h1;rw[sh_t hz,sh_a hz];by_cases hk:(next s a).1.k=0
  ·rw[if_pos hk,if_pos hk];exact (shO_bad _ _ _ _ (by decide)).symm
  rw[if_neg hk,if_neg hk];have hb:=Lx.next_bd hz hk;by_cases h3:(next s a).1.k=5∧(next s a).1.s=idW
  ·rw[if_pos h3,if_pos h3];exact (shO_ok _ _ _).symm
  rw[if_neg h3,if_neg h3];by_cases h4:(next s a).1.k≠4
  ·rw[if_pos h4,if_pos h4];exact (shO_bad _ _ _ _ (by decide)).symm
  rw[if_neg h4,if_neg h4];by_cases h5:(next s a).1.s∈met
  ·rw[if_pos h5,if_pos h5];exact (shO_bad _ _ _ _ (by decide)).symm
  rw[if_neg h5,if_neg h5];by_cases h6:met.length=8191
  ·rw[if_pos h6,if_pos h6];exact (shO_bad _ _ _ _ (by decide)).symm
  rw[if_neg h6,if_neg h6];rw[next_pre p s (show 0≤(next s a).1.t by omega),sh_e,sh_k,skipI_pre p s (show 0≤(next s a).1.t by omega),object_pre p s (show 0≤(next s a).1.t by omega)];by_cases h7:(next s (next s a).1.t).2≠0
  ·rw[if_pos h7,if_pos h7];exact (shO_bad _ _ _ _ h7).symm
  rw[if_neg h7,if_neg h7];have hz2:(next s (next s a).1.t).2=0:=Classical.not_not.1 h7;rw[sh_a hz2];by_cases h8:(next s (next s a).1.t).1.k=0
  ·rw[if_pos h8,if_pos h8];exact (shO_bad _ _ _ _ (by decide)).symm
  rw[if_neg h8,if_neg h8];have e:(shR p.length (Ps.object s (next s a).1.t)).2.2=(Ps.object s (next s a).1.t).2.2:=rfl;have e1:(shR p.length (Ps.object s (next s a).1.t)).1=(Ps.object s (next s a).1.t).1:=rfl;rw[e,e1];by_cases h9:(Ps.object s (next s a).1.t).2.2≠0
  ·rw[if_pos h9,if_pos h9];exact (shO_bad _ _ _ _ h9).symm
  rw[if_neg h9,if_neg h9];have h9:(Ps.object s (next s a).1.t).2.2=0:=Classical.not_not.1 h9;by_cases h10:refers (Ps.object s (next s a).1.t).1=true
  ·rw[if_pos h10,if_pos h10];exact (shO_bad _ _ _ _ (by decide)).symm
  rw[if_neg h10,if_neg h10];by_cases h11:24≤depth (Ps.object s (next s a).1.t).1
  ·rw[if_pos h11,if_pos h11];exact (shO_bad _ _ _ _ (by decide)).symm
  rw[if_neg h11,if_neg h11];have e2:(shR p.length (Ps.object s (next s a).1.t)).2.1=p.length+(Ps.object s (next s a).1.t).2.1:=by unfold shR;exact if_pos h9
  have hb2:=Bd.object_bd h9;have hsk:=Lx.skip_ge s a.toNat;rw[e2];exact keys_pre p s m m' _ _ _ (by omega) (by omega) (by omega) (by omega) (by omega)
theorem image_pre (p s:List UInt8){a:Int}(h0:0≤a):image (p++s) (p.length+a)=shO p.length (image s a):=by
 unfold image;simp only;have hk:=keys_pre p s (s.length+1) ((p++s).length+1) a Ps.dict0 [] h0 (by omega) (by rw[List.length_append];omega) (by omega) (by omega);rw[hk];have hlen:((p++s).length:Int)=p.length+s.length:=by rw[List.length_append];omega
 by_cases he:(keys s (s.length+1) a Ps.dict0 []).2.2.e=0
 case neg=>
  have e1:(shO p.length (keys s (s.length+1) a Ps.dict0 [])).2.2.e=(keys s (s.length+1) a Ps.dict0 []).2.2.e:=by unfold shO shF;simp[he]
  rw[e1,if_pos he,if_pos he];simp[shO,shF,he]
 have hb:=keys_bd _ he;generalize keys s (s.length+1) a Ps.dict0 []=d at *;have e1:(shO p.length d).2.2.e=0:=by unfold shO shF;simp[he]
 have e2:(shO p.length d).2.1=p.length+d.2.1:=by unfold shO;simp[he]
 have e3:(shO p.length d).1=d.1:=rfl;rw[e1,e2,e3,if_neg (show ¬((0:Int)≠0) by decide),if_neg (show ¬(d.2.2.e≠0) by simp[he]),whiteAt_pre p s (by omega),hlen];by_cases hw:whiteAt s d.2.1=false
 ·rw[if_pos hw,if_pos hw];exact (shO_bad _ _ _ _ (by decide)).symm
 rw[if_neg hw,if_neg hw];rw[show ((p.length:Int)+d.2.1).toNat+1=p.length+(d.2.1.toNat+1) by omega,findE_pre p s (s.length+1) _ _ (by omega) (by rw[List.length_append];omega) (by omega) (by omega)];cases findE s (s.length+1) (d.2.1.toNat+1) with
|none=>exact (shO_bad _ _ _ _ (by decide)).symm
|some i=>
  simp only[Option.map_some];rw[shO_ok,drop_pre,show p.length+i - (p.length+(d.2.1.toNat+1))=i - (d.2.1.toNat+1) by omega]
  congr 2
  try omega
theorem operator_pre (p s:List UInt8){x:Tok×Int}(hx:x.2=0)(h0:0≤x.1.t){n n':Nat}{args:List Ob}(hn:n < 8191)(hn':n' < 8191):operator (p++s) (sh p.length x).1 n' args=shO p.length (operator s x.1 n args):=by
 unfold operator;rw[sh_s,sh_a hx,sh_t hx,image_pre p s h0,if_neg (show ¬8191≤n' by omega),if_neg (show ¬8191≤n by omega)];by_cases g1:x.1.s=biW
 ·rw[if_pos g1,if_pos g1];by_cases g2:args≠[]
  ·rw[if_pos g2,if_pos g2];exact (shO_bad _ _ _ _ (by decide)).symm
  ·rw[if_neg g2,if_neg g2]
 rw[if_neg g1,if_neg g1];by_cases g3:x.1.s=idW∨x.1.s=eiW∨x.1.s=rW
 ·rw[if_pos g3,if_pos g3];exact (shO_bad _ _ _ _ (by decide)).symm
 ·rw[if_neg g3,if_neg g3];exact (shO_ok _ _ _).symm
theorem readG_pre (p s:List UInt8)(L:List Cop):∀(m m':Nat) (a:Int) (l:List Cop) (args:List Ob),0≤a→a≤s.length→(L.length:Int)+l.length+(s.length - a) < 8191→(s.length:Int)+1≤a+m→(s.length:Int)+1≤a+m'→1≤m→1≤m' →
  readG (p++s) m' (p.length+a) (L++l) args=(if (readG s m a l args).2.e=0 then L++(readG s m a l args).1 else [],shF p.length (readG s m a l args).2)
|0,_,a,l,args,_,_,_,_,_,h,_=>by omega
|_+1,0,a,l,args,_,_,_,_,_,_,h=>by omega
|m+1,m'+1,a,l,args,h0,ha,hL,hm,hm',_,_=>by
  have hlen:((p++s).length:Int)=p.length+s.length:=by rw[List.length_append];omega
  rw[readG,readG,next_pre p s h0,sh_e,sh_k,sh_s,skipI_pre p s h0,hlen];split
  ·rename_i h1
   simp[shF,h1]
  rename_i hz
  have hz:(next s a).2=0:=Classical.not_not.1 hz;split
  ·split
   ·simp[shF]
   ·simp[shF,ok]
  rename_i hk
  have hb:=Lx.next_bd hz hk;split
  ·rw[List.length_append,operator_pre p s hz (by omega) (n:=l.length) (by omega) (by omega)];by_cases he:(operator s (next s a).1 l.length args).2.2.e=0
   ·have e1:(shO p.length (operator s (next s a).1 l.length args)).2.2.e=0:=by unfold shO shF;simp[he]
    have e2:(shO p.length (operator s (next s a).1 l.length args)).2.1=p.length+(operator s (next s a).1 l.length args).2.1:=by unfold shO;simp[he]
    have e3:(shO p.length (operator s (next s a).1 l.length args)).1=(operator s (next s a).1 l.length args).1:=rfl;have b:=operator_bd hz hk he;rw[e1,e2,e3,if_neg (show ¬((0:Int)≠0) by decide),if_neg (show ¬((operator s (next s a).1 l.length args).2.2.e≠0) by simp[he]),List.append_assoc];exact readG_pre p s L m m' _ _ _ (by omega) (by omega) (by rw[List.length_append];simp only[List.length_cons,List.length_nil];omega) (by omega) (by omega) (by omega) (by omega)
   ·have e1:(shO p.length (operator s (next s a).1 l.length args)).2.2.e=(operator s (next s a).1 l.length args).2.2.e:=by unfold shO shF;simp[he]
    have e2:(shO p.length (operator s (next s a).1 l.length args)).2.2=shF p.length (operator s (next s a).1 l.length args).2.2:=rfl;rw[e1,if_pos he,if_pos he,e2,if_neg he]
  rw[object_pre p s h0,sh_a hz];have e:(shR p.length (Ps.object s a)).2.2=(Ps.object s a).2.2:=rfl;have e1:(shR p.length (Ps.object s a)).1=(Ps.object s a).1:=rfl;rw[e,e1];split
  ·rename_i h1
   simp[shF,h1]
  rename_i h1
  have h1:(Ps.object s a).2.2=0:=Classical.not_not.1 h1;split
  ·simp[shF]
  split
  ·simp[shF]
  have e2:(shR p.length (Ps.object s a)).2.1=p.length+(Ps.object s a).2.1:=by unfold shR;rw[if_pos h1]
  have hb2:=Bd.object_bd h1;rw[e2];exact readG_pre p s L m m' _ _ _ (by omega) (by omega) (by omega) (by omega) (by omega) (by omega) (by omega)
end Cs
end
section
open Go
namespace Cs
open Lx (next Tok token skip run cut)
open Ps (R bad Good2 Look RefNot ref leaf)
theorem runF_nl:∀(l r:List UInt8),Lx.runF (l++10::r)=Lx.runF l
|[],r=>by rw[List.nil_append,Lx.runF,Lx.runF,if_neg (by decide)]
|c::t,r=>by rw[List.cons_append,Lx.runF,Lx.runF,runF_nl t r]
theorem run_nl {s:List UInt8}(r:List UInt8){k:Nat}(hk:k≤s.length):run (s++10::r) k=run s k:=by
 unfold Lx.run;rw[List.drop_append_of_le_length hk,runF_nl]
theorem token_nl {s:List UInt8}(r:List UInt8){q:Nat}(hq:q < s.length)(h:(token s q).2=0)(hk:(token s q).1.k≠0):token (s++10::r) q=token s q:=by
 have hd:=Lx.drop_cons hq;have hd2:(s++10::r).drop q=s[q]::(s.drop (q+1)++10::r):=by rw[List.drop_append_of_le_length (by omega),hd];rfl
 have hd3:(s++10::r).drop (q+1)=s.drop (q+1)++10::r:=List.drop_append_of_le_length (by omega);have hT:∀S:List UInt8,∀t:List UInt8,S.drop q=s[q]::t→token S q=if s[q]=91∨s[q]=93∨s[q]=123∨s[q]=125 then Lx.mark S q 1
  else if s[q]=60 then (if t.head?=some s[q] then Lx.mark S q 2 else Lx.hex S q)
  else if s[q]=62 then (if t.head?=some s[q] then Lx.mark S q 2 else Lx.refused 3)
  else if s[q]=47 then Lx.name S q
  else if s[q]=40 then Lx.text S q
  else if s[q]=41 then Lx.refused 3
  else Lx.word S q:=fun S t hS=>by rw[token,hS]
 rw[hT s _ hd] at h hk ⊢;rw[hT (s++10::r) _ hd2];have two:∀{c:UInt8},(s.drop (q+1)).head?=some c→q+2≤s.length∧(s.drop (q+1)++10::r).head?=some c:=by
  intro c hc;have hne:s.drop (q+1)≠[]:=by intro e;rw[e] at hc;cases hc
  have:=List.length_pos_iff.2 hne;rw[List.length_drop] at this;exact⟨by omega,by rw[Lx.head_app hne];exact hc⟩
 by_cases g0:s[q]=91∨s[q]=93∨s[q]=123∨s[q]=125
 ·rw[if_pos g0,if_pos g0];unfold Lx.mark;rw[Lx.cut_more (10::r) (by omega) (by omega)]
 rw[if_neg g0] at h hk ⊢;rw[if_neg g0];by_cases g1:s[q]=60
 ·rw[if_pos g1] at h hk ⊢;rw[if_pos g1];by_cases g:(s.drop (q+1)).head?=some s[q]
  ·obtain⟨h2,h3⟩:=two g;rw[if_pos g,if_pos h3];unfold Lx.mark;rw[Lx.cut_more (10::r) (by omega) h2]
  ·rw[if_neg g] at h hk ⊢;unfold Lx.hex at h hk;cases hx:Lx.hexF (-1) (s.drop (q+1)) with
  |inr e=>rw[hx] at hk;exact absurd rfl hk
  |inl y=>
    have hne:s.drop (q+1)≠[]:=by intro e;rw[e,Lx.hexF] at hx;cases hx
    rw[if_neg (by rw[Lx.head_app hne];exact g)];unfold Lx.hex;rw[hd3,Lx.hexF_ext _ _ _ (10::r) hx,hx]
 rw[if_neg g1] at h hk ⊢;rw[if_neg g1];by_cases g2:s[q]=62
 ·rw[if_pos g2] at h hk ⊢;rw[if_pos g2];by_cases g:(s.drop (q+1)).head?=some s[q]
  ·obtain⟨h2,h3⟩:=two g;rw[if_pos g,if_pos h3];unfold Lx.mark;rw[Lx.cut_more (10::r) (by omega) h2]
  ·rw[if_neg g] at hk;exact absurd rfl hk
 rw[if_neg g2] at h hk ⊢;rw[if_neg g2];by_cases g3:s[q]=47
 ·rw[if_pos g3] at h hk ⊢;rw[if_pos g3];unfold Lx.name;rw[run_nl r (by omega),Lx.cut_more (10::r) (by omega) (Lx.run_le s (by omega))]
 rw[if_neg g3] at h hk ⊢;rw[if_neg g3];by_cases g4:s[q]=40
 ·rw[if_pos g4] at h hk ⊢;rw[if_pos g4];unfold Lx.text at h hk ⊢;cases hx:Lx.textG 0 1 (s.drop (q+1)) with
 |none=>rw[hx] at hk;exact absurd rfl hk
 |some y=>rw[hd3,Lx.textG_ext _ _ _ _ (10::r) hx]
 rw[if_neg g4] at h hk ⊢;rw[if_neg g4];by_cases g5:s[q]=41
 ·rw[if_pos g5] at hk;exact absurd rfl hk
 rw[if_neg g5] at h hk ⊢;rw[if_neg g5];unfold Lx.word;rw[run_nl r (by omega),Lx.cut_more (10::r) (by omega) (Lx.run_le s (by omega))]
def Ext (s t:List UInt8):Prop:=∀a,(next s a).2=0→(next s a).1.k≠0→next t a=next s a
theorem ext_nl (s r:List UInt8):Ext s (s++10::r):=by
 intro a h hk;obtain⟨b1,b2,b3,b4,b5⟩:=Lx.next_bd h hk;have hq:skip s a.toNat < s.length:=by omega
 have e1:next s a=token s (skip s a.toNat):=by unfold Lx.next;rw[if_neg (by omega)]
 have e2:next (s++10::r) a=token (s++10::r) (skip s a.toNat):=by
  unfold Lx.next
  rw[if_neg (by rw[List.length_append];omega),Lx.skip_more (10::r) (by omega) hq]
 rw[e1] at h hk ⊢;rw[e2,token_nl r hq h hk]
section
variable {s t:List UInt8}
theorem noRef_ext (hx:Ext s t){p e:Int}(h:Look s p e):RefNot s t p:=by
 intro x hp hn;subst hp;obtain⟨h1,h2,h3,h4⟩:=h;have e1:=hx _ h1 h2;unfold Ps.ref at hn ⊢;by_cases g1:x.n < 1∨8191 < x.n
 ·rw[if_pos g1]
 rw[if_neg g1] at hn ⊢;rw[e1];by_cases g2:(next s x.t).2≠0∨(next s x.t).1.k≠1∨(next s x.t).1.n < 0∨65535 < (next s x.t).1.n
 ·rw[if_pos g2]
 rw[if_neg g2] at hn ⊢;obtain⟨h5,h6,h7⟩:=h4 (by omega);rw[hx _ h5 h6];exact hn
theorem ref_ext (hx:Ext s t){x:Tok}{p:Int×Int}(h:ref s x=some p):ref t x=some p:=by
 unfold Ps.ref at h ⊢;by_cases g1:x.n < 1∨8191 < x.n
 ·rw[if_pos g1] at h;cases h
 rw[if_neg g1] at h ⊢;by_cases g2:(next s x.t).2≠0∨(next s x.t).1.k≠1∨(next s x.t).1.n < 0∨65535 < (next s x.t).1.n
 ·rw[if_pos g2] at h;cases h
 rw[if_neg g2] at h;by_cases g3:(next s (next s x.t).1.t).2=0∧(next s (next s x.t).1.t).1.k=5∧(next s (next s x.t).1.t).1.s=[82]
 ·rw[if_pos g3] at h;have e1:=hx x.t (by omega) (by omega);have e2:=hx (next s x.t).1.t g3.1 (by rw[g3.2.1];decide);rw[e1,if_neg g2,e2,if_pos g3];exact h
 ·rw[if_neg g3] at h;cases h
theorem leaf_ext (hx:Ext s t){x:Tok}(hn:RefNot s t (leaf s x).2.1):leaf t x=leaf s x:=by
 unfold Ps.leaf at hn ⊢;by_cases g:x.k=1
 ·rw[if_pos g] at hn;rw[if_pos g,if_pos g];cases hr:ref s x with
 |some p=>rw[ref_ext hx hr]
 |none=>
   rw[hr] at hn;rw[hn x rfl hr]
 ·rw[if_neg g,if_neg g]
def More (s t:List UInt8)(sub sub':Int→R):Prop:=∀a,(sub a).2.2=0→RefNot s t (sub a).2.1→sub' a=sub a
theorem arr_ext (hx:Ext s t){ok:Bool}{sub sub':Int→R}(hg:Ps.Good s sub)(h2:Good2 s sub)(hm:More s t sub sub'):∀(m m':Nat) (a:Int) (acc:List Ob),m≤m'→(Ps.arr s ok sub m a acc).2.2=0→Ps.arr t ok sub' m' a acc=Ps.arr s ok sub m a acc
|0,_,a,acc,_,h=>by simp[Ps.arr,bad] at h
|m+1,0,a,acc,hle,_=>by omega
|m+1,m'+1,a,acc,hle,h=>by
  have L:=Ps.arr_look hg h2 (m+1) a acc h;have e1:=hx _ L.1 L.2.1;rw[Ps.arr] at h;rw[Ps.arr,Ps.arr,e1];by_cases g1:(next s a).2=0∧(next s a).1.k=6∧(next s a).1.s=[93]
  ·rw[if_pos g1,if_pos g1]
  rw[if_neg g1] at h;rw[if_neg g1,if_neg g1];by_cases g2:(next s a).2=0∧acc.length=8191∧Ps.begins (next s a).1=true∧ok=true
  ·rw[if_pos g2,if_pos g2]
  rw[if_neg g2] at h;rw[if_neg g2,if_neg g2];by_cases g3:(next s a).2≠0
  ·exact absurd L.1 g3
  rw[if_neg g3] at h;rw[if_neg g3,if_neg g3];by_cases g4:(sub a).2.2≠0
  ·rw[if_pos g4] at h;exact absurd h g4
  rw[if_neg g4] at h;have e2:=hm a (Classical.not_not.1 g4) (noRef_ext hx (Ps.arr_look hg h2 m _ _ h));rw[e2,if_neg g4,if_neg g4];exact arr_ext hx hg h2 hm m m' _ _ (by omega) h
theorem dict_ext (hx:Ext s t){sub sub':Int→R}(hg:Ps.Good s sub)(h2:Good2 s sub)(hm:More s t sub sub'):∀(m m':Nat) (a:Int) (o:Ob) (met:List (List UInt8)),m≤m'→(Ps.dict s sub m a o met).2.2=0→Ps.dict t sub' m' a o met=Ps.dict s sub m a o met
|0,_,a,o,met,_,h=>by simp[Ps.dict,bad] at h
|m+1,0,a,o,met,hle,_=>by omega
|m+1,m'+1,a,o,met,hle,h=>by
  have L:=Ps.dict_look hg h2 (m+1) a o met h;have e1:=hx _ L.1 L.2.1;rw[Ps.dict] at h;rw[Ps.dict,Ps.dict,e1];by_cases g1:(next s a).2≠0
  ·exact absurd L.1 g1
  rw[if_neg g1] at h;rw[if_neg g1,if_neg g1];by_cases g2:(next s a).1.k=6∧(next s a).1.s=[62,62]
  ·rw[if_pos g2,if_pos g2]
  rw[if_neg g2] at h;rw[if_neg g2,if_neg g2];by_cases g3:(next s a).1.k=0
  ·exact absurd g3 L.2.1
  rw[if_neg g3] at h;rw[if_neg g3,if_neg g3];by_cases g4:(next s a).1.k≠4
  ·rw[if_pos g4,if_pos g4]
  rw[if_neg g4] at h;rw[if_neg g4,if_neg g4];by_cases g5:(next s a).1.s∈met
  ·rw[if_pos g5,if_pos g5]
  rw[if_neg g5] at h;rw[if_neg g5,if_neg g5];by_cases g6:met.length=8191
  ·rw[if_pos g6,if_pos g6]
  rw[if_neg g6] at h;rw[if_neg g6,if_neg g6];by_cases g7:(sub (next s a).1.t).2.2≠0
  ·rw[if_pos g7] at h;exact absurd h g7
  rw[if_neg g7] at h;have e2:=hm _ (Classical.not_not.1 g7) (noRef_ext hx (Ps.dict_look hg h2 m _ _ _ h));rw[e2,if_neg g7,if_neg g7];exact dict_ext hx hg h2 hm m m' _ _ _ (by omega) h
theorem obj_ext (hx:Ext s t)(hl:s.length≤t.length):∀n,More s t (Ps.obj s n) (Ps.obj t n):=by
 intro n
 induction n with
|zero=>
  intro a h _;obtain⟨_,_,_,m,hm,_⟩:=Ps.obj_open h;omega
|succ n ih=>
  intro a h hn;obtain⟨h1,h2,h3,m,hm,e⟩:=Ps.obj_open h;have hmn:m=n:=by omega
  subst hmn;have e1:=hx a h1 h2;have e2:Ps.obj t (m+1) a=if (next s a).1.k≠6 then leaf t (next s a).1 else if (next s a).1.s=[91] then Ps.arr t (decide (m≠0)) (Ps.obj t m) (t.length+1) (next s a).1.t [] else Ps.dict t (Ps.obj t m) (t.length+1) (next s a).1.t Ps.dict0 []:=by
   rw[Ps.obj,e1,if_neg (by simp[h1]),if_neg h2,if_neg (by simp[h3])]
  rw[e2];by_cases g:(next s a).1.k≠6
  ·rw[if_pos g] at e;rw[if_pos g];rw[e] at hn ⊢;exact leaf_ext hx hn
  rw[if_neg g] at e;rw[if_neg g];by_cases g3:(next s a).1.s=[91]
  ·rw[if_pos g3] at e;rw[if_pos g3];rw[e] at h ⊢;exact arr_ext hx (Ps.obj_good s m) (Ps.obj_good2 s m) ih _ _ _ _ (by omega) h
  ·rw[if_neg g3] at e;rw[if_neg g3];rw[e] at h ⊢;exact dict_ext hx (Ps.obj_good s m) (Ps.obj_good2 s m) ih _ _ _ _ _ (by omega) h
theorem object_ext (hx:Ext s t)(hl:s.length≤t.length){a:Int}(h:(Ps.object s a).2.2=0)(hn:RefNot s t (Ps.object s a).2.1):Ps.object t a=Ps.object s a:=by
 have b:=Bd.object_bd h;unfold Ps.object at h hn ⊢;split at h
 ·simp[bad] at h
 ·rename_i g
  rw[if_neg g] at hn ⊢;rw[if_neg (by omega)];exact obj_ext hx hl 24 a h hn
theorem keys_ext (hx:Ext s t)(hl:s.length≤t.length):∀(m m':Nat) (a:Int) (o:Ob) (met:List (List UInt8)),m≤m'→(keys s m a o met).2.2.e=0→keys t m' a o met=keys s m a o met
|0,_,a,o,met,_,h=>by simp[keys] at h
|m+1,0,a,o,met,hle,_=>by omega
|m+1,m'+1,a,o,met,hle,h=>by
  obtain⟨h1,h2,h3⟩:=keys_ok h;have e1:=hx a h1 h2;rcases h3 with ⟨g,e⟩|⟨g1,g2,g3,g4,g5,g6,g7,g8,e⟩
  ·rw[e,keys,e1,if_neg (by simp[h1]),if_neg h2,if_pos g]
  ·rw[e] at h ⊢;have hn:RefNot s t (Ps.object s (next s a).1.t).2.1:=by
    cases m with
   |zero=>simp[keys] at h
   |succ m=>
     obtain⟨k1,k2,k3⟩:=keys_ok h;exact noRef_ext hx (e:=(next s (Ps.object s (next s a).1.t).2.1).1.t) ⟨k1,k2,Int.le_refl _,fun hk=>by rcases k3 with ⟨k4,_⟩|⟨k4,_⟩<;>omega⟩
   have e2:=object_ext hx hl g6 hn;have e3:=hx _ g4 g5;rw[keys,e1,if_neg (by simp[h1]),if_neg h2,if_neg (by rw[g1];simp),if_neg (by simp[g1]),if_neg g2,if_neg g3,e3,if_neg (by simp[g4]),if_neg g5,e2,if_neg (by simp[g6]),if_neg (by simp[g7]),if_neg (by omega)];exact keys_ext hx hl m m' _ _ _ (by omega) h
end
theorem ends_nl {s:List UInt8}(r:List UInt8){i:Nat}(h:i+3≤s.length):ends (s++10::r) i=ends s i:=by
 unfold ends;rw[List.drop_append_of_le_length (by omega)];have hl:3≤(s.drop i).length:=by rw[List.length_drop];omega
 generalize s.drop i=u at *
 match u,hl with
|w::e::x::[],_=>simp[show Oc.white 10=true by decide]
|w::e::x::c::u,_=>simp
theorem whiteAt_more {s:List UInt8}(r:List UInt8){a:Int}(h:whiteAt s a=true):whiteAt (s++r) a=true:=by
 unfold whiteAt at h ⊢;simp only[Bool.and_eq_true,decide_eq_true_eq] at h ⊢;refine⟨h.1,?_⟩;cases hg:s[a.toNat]? with
|none=>rw[hg] at h;simp at h
|some c=>
  have hlt:a.toNat < s.length:=by
   apply Classical.byContradiction;intro hh;rw[List.getElem?_eq_none (by omega)] at hg;cases hg
  rw[List.getElem?_append_left hlt];exact h.2
theorem image_nl {s:List UInt8}(r:List UInt8){a:Int}(h:(image s a).2.2.e=0):image (s++10::r) a=image s a:=by
 have hlen:(s++10::r).length=s.length+1+r.length:=by simp only[List.length_append,List.length_cons];omega
 obtain⟨h1,h2,i,h3,h4⟩:=image_ok h;have hk:=keys_ext (ext_nl s r) (by omega) (s.length+1) ((s++10::r).length+1) a Ps.dict0 [] (by omega) h1;have b:=keys_bd _ h1;obtain⟨f1,f2,f3⟩:=findE_ok _ h3;have fl:=ends_len f2;rw[h4];unfold image;simp only;rw[hk,if_neg (by simp[h1]),if_neg (by rw[whiteAt_more (10::r) h2];decide)];have hf:findE (s++10::r) ((s++10::r).length+1) ((keys s (s.length+1) a Ps.dict0 []).2.1.toNat+1)=some i:=by
  refine findE_is (by rw[ends_nl r fl];exact f2) _ _ f1 (fun j hj1 hj2=>?_) (by omega);rw[ends_nl r (by omega)];exact f3 j hj1 hj2
 rw[hf];simp only;rw[List.drop_append_of_le_length (by omega),List.take_append_of_le_length (by rw[List.length_drop];omega)]
theorem operator_nl {s:List UInt8}(r:List UInt8){x:Tok}{n:Nat}{args:List Ob}(h:(operator s x n args).2.2.e=0):operator (s++10::r) x n args=operator s x n args:=by
 obtain⟨h1,h2⟩:=operator_ok h;rcases h2 with ⟨g1,g2,e⟩|⟨g1,g2,g3,g4,e⟩
 ·rw[e] at h ⊢;unfold operator;rw[if_neg (by omega),if_pos g1,if_neg (by simp[g2])];exact image_nl r h
 ·rw[e];unfold operator;rw[if_neg (by omega),if_neg g1,if_neg (by simp[g2,g3,g4])]
theorem readG_look {s:List UInt8}:∀(m:Nat) {a:Int} {l:List Cop} {args:List Ob},args≠[]→(readG s m a l args).2.e=0→(next s a).2=0∧(next s a).1.k≠0∧((next s a).1.k=1→(next s (next s a).1.t).2=0∧(next s (next s a).1.t).1.k≠0)
|0,a,l,args,_,h=>by simp[readG] at h
|m+1,a,l,args,ha,h=>by
  obtain⟨h1,h2⟩:=readG_ok h;refine⟨h1,?_⟩;rcases h2 with ⟨_,h3,_⟩|⟨h3,_,_,_⟩|⟨h3,h4,h5,h6,_,e⟩
  ·exact absurd h3 ha
  ·exact⟨by omega,fun hk=>by omega⟩
  ·refine⟨h3,fun hk=>?_⟩;rw[e] at h;have b:=Bd.object_bd h5;have hob:Ps.object s a=Ps.obj s 24 a:=by
    unfold Ps.object;rw[if_neg (by have:=Lx.next_bd h1 h3;omega)]
   have g:=Ps.obj_good2 s 24 a (by rw[←hob];exact h5);rcases g.2.2.2 hk with g|g
   ·have:=readG_look m (by simp) h;rw[hob,g] at this;exact⟨this.1,this.2.1⟩
   ·exact⟨g.1,g.2.1⟩
theorem readG_nl {s:List UInt8}(r:List UInt8):∀(m M:Nat) (a:Int) (l:List Cop) (args:List Ob),0≤a→a≤s.length→((s++10::r).length:Int)+1≤a+M→(readG s m a l args).2.e=0 →
  ∃(M':Nat) (a':Int),0≤a'∧a'≤s.length∧((s++10::r).length:Int)+1≤a'+M'∧(next s a').2=0∧(next s a').1.k=0∧readG (s++10::r) M a l args=readG (s++10::r) M' a' (readG s m a l args).1 []
|0,M,a,l,args,_,_,_,h=>by simp[readG] at h
|m+1,0,a,l,args,_,ha,hm,h=>by simp only[List.length_append,List.length_cons] at hm;omega
|m+1,M+1,a,l,args,h0,ha,hm,h=>by
  have hlen:(s++10::r).length=s.length+1+r.length:=by simp only[List.length_append,List.length_cons];omega
  have hx:=ext_nl s r;obtain⟨h1,h2⟩:=readG_ok h;rcases h2 with ⟨h3,h4,e⟩|⟨h3,h4,h5,e⟩|⟨h3,h4,h5,h6,h7,e⟩
  ·rw[e,h4];exact⟨M+1,a,h0,ha,hm,h1,h3,rfl⟩
  ·rw[e] at h ⊢;have e1:=hx a h1 (by omega);have b:=operator_bd h1 (by omega) h5;have e2:readG (s++10::r) (M+1) a l args=readG (s++10::r) M (operator s (next s a).1 l.length args).2.1 (l++[(operator s (next s a).1 l.length args).1]) []:=by
    rw[readG,e1,if_neg (by simp[h1]),if_neg (by omega),if_pos ⟨h3,h4⟩,operator_nl r h5,if_neg (by simp[h5])]
   rw[e2];exact readG_nl r m M _ _ _ (by omega) (by omega) (by omega) h
  ·rw[e] at h ⊢;have e1:=hx a h1 h3;have b:=Bd.object_bd h5;have hn:RefNot s (s++10::r) (Ps.object s a).2.1:=by
    obtain⟨k1,k2,k3⟩:=readG_look m (by simp) h;exact noRef_ext hx (e:=s.length) ⟨k1,k2,(Lx.next_bd k1 k2).2.2.2.2,fun hk=>⟨(k3 hk).1,(k3 hk).2,(Lx.next_bd (k3 hk).1 (k3 hk).2).2.2.2.2⟩⟩
   have e3:=object_ext hx (by omega) h5 hn;have e2:readG (s++10::r) (M+1) a l args=readG (s++10::r) M (Ps.object s a).2.1 l (args++[(Ps.object s a).1]):=by
    rw[readG,e1,if_neg (by simp[h1]),if_neg h3,if_neg h4,e3,if_neg (by simp[h5]),if_neg (by simp[h6]),if_neg (by omega)]
   rw[e2];exact readG_nl r m M _ _ _ (by omega) (by omega) (by omega) h
theorem skipF_nl:∀(b:Bool) (l r:List UInt8),Lx.skipF b l=l.length→Lx.skipF b (l++10::r)=l.length+1+Lx.skipF false r
|true,[],r,_=>by
  rw[List.nil_append,Lx.skipF,show (!Lx.eol 10)=false by decide];simp
|false,[],r,_=>by
  rw[List.nil_append,Lx.skipF,if_neg (by decide),if_pos (by decide)];simp
|true,c::t,r,h=>by
  rw[Lx.skipF,List.length_cons] at h;rw[List.cons_append,Lx.skipF,skipF_nl (!Lx.eol c) t r (by omega),List.length_cons];omega
|false,c::t,r,h=>by
  rw[Lx.skipF,List.length_cons] at h;rw[List.cons_append,Lx.skipF];by_cases h1:c=37
  ·rw[if_pos h1] at h;rw[if_pos h1,skipF_nl true t r (by omega),List.length_cons];omega
  ·rw[if_neg h1] at h;rw[if_neg h1];by_cases h2:Oc.white c=true
   ·rw[if_pos h2] at h;rw[if_pos h2,skipF_nl false t r (by omega),List.length_cons];omega
   ·rw[if_neg h2] at h;omega
theorem readG_at {t:List UInt8}{a b:Int}(h0:0≤a∧a≤t.length)(h1:0≤b∧b≤t.length)(h:skip t a.toNat=skip t b.toNat)(m:Nat)(l:List Cop)(args:List Ob):readG t m a l args=readG t m b l args:=by
 have e1:next t a=next t b:=by unfold Lx.next;rw[if_neg (by omega),if_neg (by omega),h]
 have e2:Lx.skipI t a=Lx.skipI t b:=by unfold Lx.skipI;rw[if_neg (by omega),if_neg (by omega),h]
 have e3:Ps.object t a=Ps.object t b:=by unfold Ps.object;rw[if_neg (by omega),if_neg (by omega),Ps.obj,Ps.obj,e1]
 cases m with
|zero=>rfl
|succ m=>rw[readG,readG,e1,e2,e3]
theorem readG_fault0 {s:List UInt8}:∀(m:Nat) {a:Int} {l:List Cop} {args:List Ob},(readG s m a l args).2.e=0→(readG s m a l args).2=ok
|0,a,l,args,h=>by simp[readG] at h
|m+1,a,l,args,h=>by
  obtain⟨h1,h2⟩:=readG_ok h;rcases h2 with ⟨_,_,e⟩|⟨_,_,_,e⟩|⟨_,_,_,_,_,e⟩
  ·rw[e]
  ·rw[e] at h ⊢;exact readG_fault0 m h
  ·rw[e] at h ⊢;exact readG_fault0 m h
theorem read_join {s r:List UInt8}(h:(read s).2.e=0)(hb:s.length+r.length < 8000):read (s++10::r)=(if (read r).2.e=0 then (read s).1++(read r).1 else [],shF (s.length+1) (read r).2):=by
 have hlen:(s++10::r).length=s.length+1+r.length:=by simp only[List.length_append,List.length_cons];omega
 obtain⟨M',a',b1,b2,b3,b4,b5,e⟩:=readG_nl r (s.length+1) ((s++10::r).length+1) 0 [] [] (by omega) (by omega) (by omega) h;have hl:=readG_len (s.length+1) (a:=0) (l:=[]) (args:=[]) (by omega) h;have hsk:skip s a'.toNat=s.length:=Lx.next_end b1 b2 b4 b5;have hsk2:skip (s++10::r) a'.toNat=skip (s++10::r) ((s.length:Int)+1).toNat:=by
  unfold Lx.skip at hsk ⊢;rw[List.drop_append_of_le_length (by omega),skipF_nl false _ r (by rw[List.length_drop];omega),List.length_drop,show ((s.length:Int)+1).toNat=s.length+1 by omega];rw[show (s++10::r).drop (s.length+1)=r by rw[←List.drop_drop,List.drop_left];rfl];omega
 have e2:read (s++10::r)=readG (s++10::r) M' ((s.length:Int)+1) (read s).1 []:=by
  unfold read;rw[e];exact readG_at ⟨b1,by omega⟩ ⟨by omega,by omega⟩ hsk2 _ _ _
 have hp:=readG_pre (s++[10]) r (read s).1 (r.length+1) M' 0 [] [] (by omega) (by omega) (by unfold read;simp only[List.length_nil] at hl ⊢;omega) (by omega) (by omega) (by omega) (by omega);have el:((s++[10]).length:Int)+0=(s.length:Int)+1:=by simp
 have el2:(s++[10]).length=s.length+1:=by simp
 rw[el,el2,List.append_nil,List.append_assoc] at hp;rw[e2];exact hp
end Cs
end
section
open Go
namespace Cs
open Lx (next Tok token skip run cut Single joinR gap)
open Ps (At Toks NoRef)
structure May (o:Cop):Prop where
 form:form o=true
 check:∀x∈o.args,Vl.check 1 x=0
 kinds:∀x∈o.args,refers x=false∧x.k≠9
theorem firstE_ok:∀l:List Ob,firstE l=0↔∀x∈l,Vl.check 1 x=0
|[]=>by simp[firstE]
|o::l=>by
  rw[firstE];split
  ·rename_i h
   exact⟨fun e=>absurd e h,fun e=>absurd (e o List.mem_cons_self) h⟩
  ·rename_i h
   rw[firstE_ok l];exact⟨fun e x hx=>(List.mem_cons.1 hx).elim (fun g=>by rw[g];exact Classical.not_not.1 h) (fun g=>e x g),fun e x hx=>e x (List.mem_cons_of_mem _ hx)⟩
theorem may_iff {o:Cop}:may o=0↔May o:=by
 unfold may;constructor
 ·intro h;split at h
  ·simp at h
  rename_i h1
  split at h
  ·rename_i h2;exact absurd h h2
  rename_i h2
  split at h
  ·simp at h
  rename_i h3
  refine⟨by simpa using h1,(firstE_ok _).1 (Classical.not_not.1 h2),fun x hx=>?_⟩;simp only[List.any_eq_true,not_exists,not_and,Bool.not_eq_true,Bool.or_eq_false_iff,decide_eq_false_iff_not] at h3;exact h3 x hx
 ·rintro⟨h1,h2,h3⟩;rw[if_neg (by simp[h1]),if_neg (by simp[(firstE_ok _).2 h2]),if_neg];simp only[List.any_eq_true,not_exists,not_and,Bool.not_eq_true,Bool.or_eq_false_iff,decide_eq_false_iff_not];exact h3
theorem refuse_ok:∀l:List Cop,refuse l=0↔∀o∈l,may o=0
|[]=>by simp[refuse]
|o::l=>by
  rw[refuse];split
  ·rename_i h
   exact⟨fun e=>absurd e h,fun e=>absurd (e o List.mem_cons_self) h⟩
  ·rename_i h
   rw[refuse_ok l];exact⟨fun e x hx=>(List.mem_cons.1 hx).elim (fun g=>by rw[g];exact Classical.not_not.1 h) (fun g=>e x g),fun e x hx=>e x (List.mem_cons_of_mem _ hx)⟩
end Cs
end
section
open Go
namespace Cs
open Lx (next Tok token skip run cut Single)
def In (s:List UInt8)(f:Flt):Prop:=0≤f.at_∧f.at_≤s.length
theorem in_skip {s:List UInt8}{a:Int}{e:Int}(h0:0≤a)(h1:a≤s.length):In s ⟨Lx.skipI s a,e⟩:=by
 have:=Lx.skip_le s (k:=a.toNat) (by omega);unfold Lx.skipI;rw[if_neg (by omega)];exact⟨by simp only;omega,by simp only;omega⟩
theorem in_tok {s:List UInt8}{a:Int}{e:Int}(h:(next s a).2=0)(hk:(next s a).1.k≠0):In s ⟨(next s a).1.a,e⟩:=by
 have:=Lx.next_bd h hk;exact⟨by simp only;omega,by simp only;omega⟩
theorem in_end {s:List UInt8}{e:Int}:In s ⟨s.length,e⟩:=⟨by simp only;omega,by simp only;omega⟩
theorem keys_in {s:List UInt8}:∀(m:Nat) {a:Int} {o:Ob} {met:List (List UInt8)},0≤a→a≤s.length→In s (keys s m a o met).2.2
|0,a,o,met,_,_=>by rw[keys];exact⟨by simp only;omega,by simp only;omega⟩
|m+1,a,o,met,h0,ha=>by
  rw[keys];by_cases h1:(next s a).2≠0
  ·rw[if_pos h1];exact in_skip h0 ha
  rw[if_neg h1];have h1:=Classical.not_not.1 h1;by_cases h2:(next s a).1.k=0
  ·rw[if_pos h2];exact in_end
  rw[if_neg h2];have b:=Lx.next_bd h1 h2;by_cases g3:(next s a).1.k=5∧(next s a).1.s=idW
  ·rw[if_pos g3];exact⟨by simp[ok],by simp[ok]<;>omega⟩
  rw[if_neg g3];by_cases g4:(next s a).1.k≠4
  ·rw[if_pos g4];exact in_tok h1 h2
  rw[if_neg g4];by_cases g5:(next s a).1.s∈met
  ·rw[if_pos g5];exact in_tok h1 h2
  rw[if_neg g5];by_cases g6:met.length=8191
  ·rw[if_pos g6];exact in_tok h1 h2
  rw[if_neg g6];by_cases h3:(next s (next s a).1.t).2≠0
  ·rw[if_pos h3];exact in_skip (by omega) (by omega)
  rw[if_neg h3];have h3:=Classical.not_not.1 h3;by_cases h4:(next s (next s a).1.t).1.k=0
  ·rw[if_pos h4];exact in_end
  rw[if_neg h4];by_cases h5:(Ps.object s (next s a).1.t).2.2≠0
  ·rw[if_pos h5];exact in_tok h3 h4
  rw[if_neg h5];have c:=Bd.object_bd (Classical.not_not.1 h5);by_cases h6:refers (Ps.object s (next s a).1.t).1=true
  ·rw[if_pos h6];exact in_tok h3 h4
  rw[if_neg h6];by_cases h7:24≤depth (Ps.object s (next s a).1.t).1
  ·rw[if_pos h7];exact in_tok h3 h4
  rw[if_neg h7];exact keys_in m (by omega) (by omega)
theorem image_in {s:List UInt8}{a:Int}(h0:0≤a)(ha:a≤s.length):In s (image s a).2.2:=by
 have hk:=keys_in (s:=s) (s.length+1) (a:=a) (o:=Ps.dict0) (met:=[]) h0 ha;unfold image;simp only;split
 ·exact hk
 rename_i h1
 have b:=keys_bd _ (Classical.not_not.1 h1);split
 ·exact⟨by simp only;omega,by simp only;omega⟩
 split
 ·exact in_end
 ·exact⟨by simp[ok],by simp[ok]<;>omega⟩
theorem operator_in {s:List UInt8}{a:Int}{n:Nat}{args:List Ob}(h:(next s a).2=0)(hk:(next s a).1.k≠0):In s (operator s (next s a).1 n args).2.2:=by
 have b:=Lx.next_bd h hk;unfold operator;split
 ·exact in_tok h hk
 split
 ·split
  ·exact in_tok h hk
  ·exact image_in (by omega) (by omega)
 split
 ·exact in_tok h hk
 ·exact⟨by simp[ok],by simp[ok]<;>omega⟩
theorem readG_in {s:List UInt8}:∀(m:Nat) {a:Int} {l:List Cop} {args:List Ob},0≤a→a≤s.length→In s (readG s m a l args).2
|0,a,l,args,_,_=>by rw[readG];exact⟨by simp only;omega,by simp only;omega⟩
|m+1,a,l,args,h0,ha=>by
  rw[readG];split
  ·exact in_skip h0 ha
  rename_i h1
  have h1:=Classical.not_not.1 h1;split
  ·split
   ·exact in_end
   ·exact⟨by simp[ok],by simp[ok]<;>omega⟩
  rename_i h2
  split
  ·split
   ·exact operator_in h1 h2
   ·rename_i h3
    have b:=operator_bd h1 h2 (Classical.not_not.1 h3);exact readG_in m (by omega) (by omega)
  split
  ·exact in_tok h1 h2
  rename_i h3
  have c:=Bd.object_bd (Classical.not_not.1 h3);split
  ·exact in_tok h1 h2
  split
  ·exact in_tok h1 h2
  ·exact readG_in m (by omega) (by omega)
theorem read_in (s:List UInt8):0≤(read s).2.at_∧(read s).2.at_≤s.length:=readG_in (s.length+1) (by omega) (by omega)
theorem read_err {s:List UInt8}(h:(read s).2.e≠0):(read s).1=[]:=readG_err _ h
theorem read_ok {s:List UInt8}(h:(read s).2.e=0):(read s).2=ok:=readG_fault0 _ h
end Cs
end
section
open Go
namespace Lx
theorem nameF_len (n:Nat):∀(l x:List UInt8),l.length≤n→nameF l=some x→x.length≤l.length:=by
 induction n with
|zero=>
  intro l x hl h;cases l with
 |nil=>simp[nameF] at h;subst h;simp
 |cons _ _=>simp at hl
|succ n ih=>
  intro l x hl h;cases l with
 |nil=>simp[nameF] at h;subst h;simp
 |cons c t=>
   by_cases hc:c=35
   ·subst hc
    match t,hl,h with
   |[],_,h=>simp[nameF] at h
   |[a],_,h=>simp[nameF] at h
   |a::b::t,hl,h=>
     simp only[nameF,if_true] at h;split at h
     ·cases h
     ·obtain⟨y,hy,rfl⟩:=map_some h;have:=ih t y (by simp at hl;omega) hy;simp only[List.length_cons];omega
   ·rw[nameF_ne hc] at h;obtain⟨y,hy,rfl⟩:=map_some h;have:=ih t y (by simpa using hl) hy;simp only[List.length_cons];omega
theorem hexF_len:∀(l:List UInt8) (h:Int) (r:List UInt8×Nat),hexF h l=.inl r→r.1.length≤r.2
|[],_,r,h=>by rw[hexF] at h;cases h
|c::t,h,r,he=>by
  rw[hexF] at he;split at he
  ·cases he;simp only;split<;>simp
  ·split at he
   ·cases hh:hexF h t with
   |inr e=>rw[hh] at he;cases he
   |inl q=>rw[hh] at he;cases he;have:=hexF_len t _ q hh;simp only;omega
   ·split at he
    ·cases he
    ·split at he
     ·cases hh:hexF (digit c) t with
     |inr e=>rw[hh] at he;cases he
     |inl q=>rw[hh] at he;cases he;have:=hexF_len t _ q hh;simp only;omega
     ·cases hh:hexF (-1) t with
     |inr e=>rw[hh] at he;cases he
     |inl q=>rw[hh] at he;cases he;have:=hexF_len t _ q hh;simp only[List.length_cons];omega
theorem escF_one (l:List UInt8):(escF l).1.length≤1:=by
 cases l with
|nil=>simp[escF]
|cons c t=>
  simp only[escF];split
  ·simp
  ·split
   ·simp
   ·split<;>simp
theorem textG_len:∀(l:List UInt8) (k o:Nat) (r:List UInt8×Nat),textG k o l=some r→r.1.length+1≤r.2
|[],k,o,r,h=>by
  cases k<;>(rw[textG] at h;cases h)
|c::t,k+1,o,r,h=>by
  rw[textG] at h;cases hh:textG k o t with
 |none=>rw[hh] at h;cases h
 |some q=>rw[hh] at h;cases h;have:=textG_len t k o q hh;simp only;omega
|c::t,0,o,r,h=>by
  rw[textG] at h;have step:∀(k o:Nat) (f:List UInt8→List UInt8),(∀x,(f x).length≤x.length+1)→(textG k o t).map (fun r=>(f r.1,r.2+1))=some r→r.1.length+1≤r.2:=by
   intro k o f hf h;cases hh:textG k o t with
  |none=>rw[hh] at h;cases h
  |some q=>rw[hh] at h;cases h;have:=textG_len t k o q hh;have:=hf q.1;simp only;omega
  have h1:=escF_one t;split at h
  ·exact step _ _ _ (fun x=>by simp) h
  ·split at h
   ·split at h
    ·cases h
    ·exact step _ _ (fun x=>(escF t).1++x) (fun x=>by rw[List.length_append];omega) h
   ·split at h
    ·exact step _ _ (fun x=>c::x) (fun x=>by simp) h
    ·split at h
     ·split at h
      ·cases h;simp
      ·exact step _ _ (fun x=>c::x) (fun x=>by simp) h
     ·exact step _ _ (fun x=>c::x) (fun x=>by simp) h
theorem cut_len (s:List UInt8)(i j:Nat):(cut s i j).length≤j - i:=by unfold cut;rw[List.length_take];omega
theorem token_len {s:List UInt8}{a:Nat}(h:(token s a).2=0):((token s a).1.s.length:Int)+(token s a).1.a≤(token s a).1.t:=by
 unfold token at h ⊢;split at h
 ·simp
 rename_i c t hd
 have hmk:∀n,((mark s a n).1.s.length:Int)+(mark s a n).1.a≤(mark s a n).1.t:=by
  intro n;have:=cut_len s a (a+n);simp only[mark];omega
 split at h
 ·rename_i h1;rw[if_pos h1];exact hmk 1
 rename_i h1;rw[if_neg h1]
 split at h
 ·rename_i h2;rw[if_pos h2]
  split at h
  ·rename_i h3;rw[if_pos h3];exact hmk 2
  ·rename_i h3;rw[if_neg h3]
   unfold hex at h ⊢;cases hx:hexF (-1) (s.drop (a+1)) with
  |inr e=>simp[refused,none_]
  |inl y=>
    rw[hx] at h;have:=hexF_len _ _ _ hx;simp only at h ⊢;rw[told_ok h];simp only;omega
 rename_i h2;rw[if_neg h2]
 split at h
 ·rename_i h3;rw[if_pos h3]
  split at h
  ·rename_i h4;rw[if_pos h4];exact hmk 2
  ·simp[refused] at h
 rename_i h3;rw[if_neg h3]
 split at h
 ·rename_i h4;rw[if_pos h4]
  unfold name at h ⊢;cases hx:nameF (cut s (a+1) (run s (a+1))) with
 |none=>simp[refused,none_]
 |some y=>
   rw[hx] at h;have:=nameF_len _ _ _ (Nat.le_refl _) hx;have:=cut_len s (a+1) (run s (a+1));have:a+1≤run s (a+1):=by unfold run;omega
   simp only at h ⊢;rw[told_ok h];simp only;omega
 rename_i h4;rw[if_neg h4]
 split at h
 ·rename_i h5;rw[if_pos h5]
  unfold text at h ⊢;cases hx:textG 0 1 (s.drop (a+1)) with
 |none=>simp[refused,none_]
 |some y=>
   rw[hx] at h;have:=textG_len _ _ _ _ hx;simp only at h ⊢;rw[told_ok h];simp only;omega
 rename_i h5;rw[if_neg h5]
 split at h
 ·simp[refused] at h
 rename_i h6;rw[if_neg h6]
 have h7:a≤run s a:=by unfold run;omega
 have h8:=cut_len s a (run s a);unfold word wordT at h ⊢;split at h
 ·rename_i g;rw[if_pos g]
  split at h
  ·rename_i g2;simp[refused] at h;exact absurd h g2
  ·rename_i g2;rw[if_neg g2];simp;omega
 rename_i g;rw[if_neg g]
 split at h
 ·rename_i g2;rw[if_pos g2];simp;omega
 rename_i g2;rw[if_neg g2]
 split at h
 ·simp[refused] at h
 rename_i g3;rw[if_neg g3,told_ok h]
 simp only;omega
theorem next_len {s:List UInt8}{i:Int}(h:(next s i).2=0):((next s i).1.s.length:Int)+(next s i).1.a≤(next s i).1.t:=by
 unfold next at h ⊢
 split at h
 ·simp[refused] at h
 rename_i h1
 rw[if_neg h1];exact token_len h
end Lx
namespace Ps
open Lx (next Tok)
theorem leaf_wt8 {s:List UInt8}{a:Int}(h0:(next s a).2=0)(hk:(next s a).1.k≠0):((leaf s (next s a).1).1.wt:Int)≤8*((leaf s (next s a).1).2.1 - a):=by
 have f:=Lx.next_len h0;have b:=Lx.next_bd h0 hk;have:=Lx.skip_ge s a.toNat;have c:=(leaf_bd h0 hk).2;have hw:(leaf s (next s a).1).1.wt≤6+(next s a).1.s.length:=by
  unfold leaf
  (repeat' split)<;>simp[Ob.wt,Ob.wts,Pl.tot,Vl.ob0]<;>omega
 have ht:(next s a).1.t≤(leaf s (next s a).1).2.1:=by
  unfold leaf;split
  ·cases hr:ref s (next s a).1 with
  |some p=>have:=(ref_bd hr).1;simp only;omega
  |none=>simp only;omega
  all_goals (repeat' split)<;>simp only<;>omega
 omega
def GoodW8 (sub:Int→R):Prop:=∀a,(sub a).2.2=0→((sub a).1.wt:Int)≤8*((sub a).2.1 - a)
theorem arr_wt8 {s:List UInt8}{ok:Bool}{sub:Int→R}(hg:GoodW8 sub)(hb:Good s sub)(a0:Int):∀(m:Nat) (a:Int) (acc:List Ob),(Ob.wts acc:Int)≤8*(a - a0)→(arr s ok sub m a acc).2.2=0→((arr s ok sub m a acc).1.wt:Int)≤6+8*((arr s ok sub m a acc).2.1 - a0)
|0,a,acc,_,h=>by simp[arr,bad] at h
|m+1,a,acc,hw,h=>by
  rw[arr] at h ⊢;split at h
  ·rename_i h1
   rw[if_pos h1];have b:=Lx.next_bd h1.1 (by rw[h1.2.1];decide);have:=Lx.skip_ge s a.toNat;simp[Ob.wt,Pl.tot];omega
  rename_i h1
  rw[if_neg h1];split at h
  ·simp[bad] at h
  rename_i h2
  rw[if_neg h2];split at h
  ·rename_i h3;exact absurd h h3
  rename_i h3
  rw[if_neg h3];split at h
  ·rename_i h4;exact absurd h h4
  rename_i h4
  rw[if_neg h4];have h4:=Classical.not_not.1 h4;have g:=hg a h4;exact arr_wt8 hg hb a0 m _ _ (by rw[Vl.wts_app,Ob.wts,Ob.wts];omega) h
theorem dict_wt8 {s:List UInt8}{sub:Int→R}(hg:GoodW8 sub)(hb:Good s sub)(a0:Int):∀(m:Nat) (a:Int) (o:Ob) (met:List (List UInt8)),(o.wt:Int)≤6+8*(a - a0)→(dict s sub m a o met).2.2=0→((dict s sub m a o met).1.wt:Int)≤6+8*((dict s sub m a o met).2.1 - a0)
|0,a,o,met,_,h=>by simp[dict,bad] at h
|m+1,a,o,met,hw,h=>by
  rw[dict] at h ⊢;split at h
  ·rename_i h1;exact absurd h h1
  rename_i h1
  rw[if_neg h1];have h1:=Classical.not_not.1 h1;split at h
  ·rename_i h2
   rw[if_pos h2];have b:=Lx.next_bd h1 (by rw[h2.1];decide);have:=Lx.skip_ge s a.toNat;simp only;omega
  rename_i h2
  rw[if_neg h2];split at h
  ·simp[bad] at h
  rename_i h3
  rw[if_neg h3];split at h
  ·simp[bad] at h
  rename_i h4
  rw[if_neg h4];split at h
  ·simp[bad] at h
  rename_i h5
  rw[if_neg h5];split at h
  ·simp[bad] at h
  rename_i h6
  rw[if_neg h6];split at h
  ·rename_i h7;exact absurd h h7
  rename_i h7
  rw[if_neg h7];have h7:=Classical.not_not.1 h7;have g:=hg _ h7;have b:=Lx.next_bd h1 h3;have:=Lx.skip_ge s a.toNat;have f:=Lx.next_len h1;have hj:=join_wt (o:=o) (key:=(next s a).1.s) (v:=(sub (next s a).1.t).1);exact dict_wt8 hg hb a0 m _ _ _ (by omega) h
theorem obj_wt8 (s:List UInt8):∀n,GoodW8 (obj s n):=by
 intro n
 induction n with
|zero=>
  intro a h;obtain⟨_,_,_,m,hm,_⟩:=obj_open h;omega
|succ n ih=>
  intro a h;obtain⟨h1,h2,h3,m,hm,he⟩:=obj_open h;have hm:n=m:=by omega
  subst hm;rw[he] at h ⊢;have b:=Lx.next_bd h1 h2;have:=Lx.skip_ge s a.toNat;split at h
  ·rename_i h4
   rw[if_pos h4];exact leaf_wt8 h1 h2
  rename_i h4
  rw[if_neg h4];split at h
  ·rename_i h5
   rw[if_pos h5];have:=arr_wt8 (ok:=decide (n≠0)) ih (obj_good s n) (next s a).1.t (s.length+1) (next s a).1.t [] (by simp[Ob.wts]) h;omega
  ·rename_i h5
   rw[if_neg h5];have:=dict_wt8 ih (obj_good s n) (next s a).1.t (s.length+1) (next s a).1.t dict0 [] (by simp[dict0,Ob.wt,Ob.wts,Pl.tot]) h;omega
theorem object_wt8 {s:List UInt8}{a:Int}(h:(object s a).2.2=0):((object s a).1.wt:Int)≤8*((object s a).2.1 - a):=by
 unfold object at h ⊢;split at h
 ·simp[bad] at h
 ·rename_i g
  rw[if_neg g];exact obj_wt8 s 24 a h
end Ps
def Cop.wt (o:Cop):Nat:=10+o.name.length+o.data.length+Ob.wts o.args
namespace Cs
open Lx (next Tok)
def wts:List Cop→Nat
|[]=>0
|o::l=>o.wt+wts l
theorem wts_app:∀a b:List Cop,wts (a++b)=wts a+wts b
|[],b=>by simp[wts]
|o::a,b=>by rw[List.cons_append,wts,wts,wts_app a b];omega
theorem keys_wt {s:List UInt8}(a0:Int):∀(m:Nat) {a:Int} {o:Ob} {met:List (List UInt8)},(o.wt:Int)≤6+8*(a - a0)→(keys s m a o met).2.2.e=0→((keys s m a o met).1.wt:Int)≤6+8*((keys s m a o met).2.1 - a0)
|0,a,o,met,_,h=>by simp[keys] at h
|m+1,a,o,met,hw,h=>by
  obtain⟨h1,h2,h3⟩:=keys_ok h;have b:=Lx.next_bd h1 h2;have:=Lx.skip_ge s a.toNat;rcases h3 with ⟨_,e⟩|⟨_,_,_,_,_,g6,_,_,e⟩
  ·rw[e];simp only;omega
  ·rw[e] at h ⊢;have g:=Ps.object_wt8 g6;have f:=Lx.next_len h1;have hj:=Ps.join_wt (o:=o) (key:=(next s a).1.s) (v:=(Ps.object s (next s a).1.t).1);exact keys_wt a0 m (by omega) h
theorem image_wt {s:List UInt8}{a:Int}(h:(image s a).2.2.e=0):((image s a).1.wt:Int)≤18+10*((image s a).2.1 - a):=by
 obtain⟨h1,h2,i,h3,h4⟩:=image_ok h;have b:=keys_bd _ h1;have hw:=keys_wt (s:=s) a (s.length+1) (a:=a) (o:=Ps.dict0) (met:=[]) (by simp[Ps.dict0,Ob.wt,Ob.wts,Pl.tot]) h1;obtain⟨f1,f2,_⟩:=findE_ok _ h3;have:=ends_len f2;rw[h4];simp only[Cop.wt,Ob.wts,biW,List.length_cons,List.length_nil,List.length_take,List.length_drop];omega
theorem operator_wt {s:List UInt8}{a:Int}{n:Nat}{args:List Ob}(h1:(next s a).2=0)(hk:(next s a).1.k=5)(h:(operator s (next s a).1 n args).2.2.e=0):((operator s (next s a).1 n args).1.wt:Int)≤Ob.wts args+20*((operator s (next s a).1 n args).2.1 - a):=by
 have b:=Lx.next_bd h1 (by omega);have:=Lx.skip_ge s a.toNat;obtain⟨_,h3⟩:=operator_ok h;have f:=Lx.next_len h1;rcases h3 with ⟨g1,_,e⟩|⟨_,_,_,_,e⟩
 ·rw[e] at h ⊢;have g:=image_wt h;have g2:=image_bd h;omega
 ·rw[e];simp only[Cop.wt,List.length_nil];omega
theorem readG_wt {s:List UInt8}:∀(m:Nat) {a:Int} {l:List Cop} {args:List Ob},0≤a→a≤s.length→(readG s m a l args).2.e=0→(wts (readG s m a l args).1:Int)≤wts l+Ob.wts args+20*(s.length - a)
|0,a,l,args,_,_,h=>by simp[readG] at h
|m+1,a,l,args,h0,ha,h=>by
  obtain⟨h1,h2⟩:=readG_ok h;rcases h2 with ⟨_,_,e⟩|⟨h3,h4,h5,e⟩|⟨h3,_,h5,h6,h7,e⟩
  ·rw[e];simp only;omega
  ·rw[e] at h ⊢;have b:=operator_bd h1 (by omega) h5;have w:=operator_wt h1 h3 h5;have:=readG_wt m (by omega) (by omega) h;rw[wts_app,wts,wts,Ob.wts] at this;omega
  ·rw[e] at h ⊢;have b:=Bd.object_bd h5;have w:=Ps.object_wt8 h5;have:=readG_wt m (by omega) (by omega) h;rw[Vl.wts_app,Ob.wts,Ob.wts] at this;omega
theorem read_wt (s:List UInt8):wts (read s).1≤20*s.length:=by
 by_cases h:(read s).2.e=0
 ·have:=readG_wt (s:=s) (s.length+1) (a:=0) (l:=[]) (args:=[]) (by omega) (by omega) h;have e:readG s (s.length+1) 0 [] []=read s:=rfl;rw[e] at this;simp only[wts,Ob.wts] at this;omega
 ·rw[read_err h];simp[wts]
theorem pairs_tot:∀(ks:List (List UInt8)) (os:List Ob),Pl.tot (pairs ks os)≤42*Ob.wts os+4*Pl.tot ks
|[],[]=>by simp[pairs,Pl.tot]
|[],_::_=>by simp[pairs,Pl.tot]
|_::_,[]=>by simp[pairs,Pl.tot]
|k::ks,o::os=>by
  have:=pairs_tot ks os;have h1:=Wr.name_len k;have h2:=Wr.text_len o;have h3:=o.wt_pos;rw[pairs,Ob.wts];simp only[Pl.tot,List.map_cons,List.sum_cons] at this ⊢;omega
theorem argsT_tot:∀os:List Ob,Pl.tot (os.map fun x=>(Wr.text x).1)≤41*Ob.wts os
|[]=>by simp[Pl.tot]
|o::os=>by
  have:=argsT_tot os;have h2:=Wr.text_len o;have h3:=o.wt_pos;rw[Ob.wts,List.map_cons];simp only[Pl.tot,List.map_cons,List.sum_cons] at this ⊢;omega
theorem parts_tot (o:Cop):Pl.tot (parts o)≤42*o.wt:=by
 unfold parts;split
 ·split
  ·rename_i d r hd
   have h1:=pairs_tot d.keys d.kids;have h2:Ob.wts d.kids+Pl.tot d.keys≤d.wt:=by cases d;rw[Ob.wt];show Ob.wts _+Pl.tot _≤_;simp only[Ob.kids,Ob.keys];omega
   rw[show biW::pairs d.keys d.kids++[idW]=[biW]++(pairs d.keys d.kids++[idW]) by simp,Pl.tot_append,Pl.tot_append,Cop.wt,hd,Ob.wts];simp only[Pl.tot,biW,idW,List.map_cons,List.map_nil,List.sum_cons,List.sum_nil,List.length_cons,List.length_nil] at h1 h2 ⊢;omega
  ·simp[Pl.tot,biW,idW,Cop.wt];omega
 ·have:=argsT_tot o.args;rw[Pl.tot_append,Cop.wt];simp only[Pl.tot,List.map_cons,List.map_nil,List.sum_cons,List.sum_nil] at this ⊢;omega
theorem one_len (o:Cop):(one o).length≤44*o.wt:=by
 have h1:=parts_tot o;have h2:=Pl.join_len (parts o);unfold one;have h3:o.data.length+10≤o.wt:=by unfold Cop.wt;omega
 split
 ·simp only[List.length_append,List.length_cons,List.length_nil,eiW];omega
 ·simp only[List.length_append,List.length_cons,List.length_nil];omega
theorem ones_len:∀l:List Cop,(l.flatMap one).length≤44*wts l
|[]=>by simp
|o::l=>by
  have:=ones_len l;have:=one_len o;rw[List.flatMap_cons,List.length_append,wts];omega
end Cs
end
section
open Eng Go.RowKit
def opC (o:Cop)(va:Value):List Value:=[.string ⟨o.name.toArray⟩,va,.string ⟨o.data.toArray⟩]
def opV (o:Cop)(va:Value):Value:=.agg (opC o va).toArray
def opE (b:Nat)(o:Cop)(va:Value):Ent:=.cells b (opC o va) 44
structure OpAt (A:Nat→Prop) (w:World) (o:Cop) (va:Value) (cs:List Value):Prop where
 args:SlA A w va 6 o.args.length cs
 all:OVs A w cs o.args
def opR (A:Nat→Prop)(w:World)(a:List Value)(o:Cop):Prop:=∃va cs,a=opC o va∧OpAt A w o va cs
abbrev PVs (A:Nat→Prop)(w:World)(cs:List Value)(l:List Cop):Prop:=Rws (opR A w) cs l
def OpsV (A:Nat→Prop)(w:World)(v:Value)(l:List Cop):Prop:=∃cs,SlA A w v 3 l.length cs∧PVs A w cs l
theorem opR_len {A:Nat→Prop}{w:World}:∀a o,opR A w a o→a.length=3:=by
 rintro a o ⟨va,cs,rfl,_⟩;rfl
theorem OpAt.one {A:Nat→Prop}{w:World}{o:Cop}{va:Value}{cs:List Value}(h:OpAt A w o va cs):va.oneCell'=true:=h.args.one
theorem opC_one (o:Cop){va:Value}(ha:va.oneCell'=true):∀v∈opC o va,v.oneCell'=true:=by
 intro v hv;simp only[opC,List.mem_cons,List.not_mem_nil,or_false] at hv;rcases hv with rfl|rfl|rfl<;>first|rfl|assumption
theorem OpAt.le {M N:Mem}(h:M.le N){o:Cop}{va:Value}{cs:List Value}(ho:OpAt M.A M.w o va cs):OpAt N.A N.w o va cs:=⟨ho.args.le h,ho.all.le h⟩
theorem opR.le {M N:Mem}(h:M.le N){a:List Value}{o:Cop}(hi:opR M.A M.w a o):opR N.A N.w a o:=by
 obtain⟨va,cs,rfl,ho⟩:=hi;exact⟨va,cs,rfl,ho.le h⟩
theorem PVs.le {M N:Mem}(h:M.le N){cs:List Value}{l:List Cop}(hl:PVs M.A M.w cs l):PVs N.A N.w cs l:=Rws.mono (fun _ _=>opR.le h) hl
theorem OpsV.le {M N:Mem}(h:M.le N){v:Value}{l:List Cop}(hl:OpsV M.A M.w v l):OpsV N.A N.w v l:=by
 obtain⟨cs,h1,h2⟩:=hl;exact⟨cs,h1.le h,PVs.le h h2⟩
theorem OpsV.nil (A:Nat→Prop)(w:World):OpsV A w nilS []:=⟨[],SlA.nil _ _ _ _,.nil⟩
theorem aggOp:aggN prog 44=some 3:=by kernel_rfl
theorem szOp:(Tryz.prog.info? 44).map (·.size)=some 3:=by kernel_rfl
theorem nSlOp:notAgg prog 23=true:=by kernel_rfl
theorem fo_p0:fOff prog 44 0=some 0:=by kernel_rfl
theorem fo_p1:fOff prog 44 1=some 1:=by kernel_rfl
theorem fo_p2:fOff prog 44 2=some 2:=by kernel_rfl
section
variable {w:World}{PK:PKT}{K:VWP}{S:Nat→Prop}{w0:World}{L:List Ent}
theorem fa_p0 {b off:Nat}:DoX prog (mFA 44 (.pointer (some ⟨b,off,none⟩)) 0) w PK K=K (.pointer (some ⟨b,off,none⟩)) w:=f_addr fo_p0
theorem fa_p1 {b off:Nat}:DoX prog (mFA 44 (.pointer (some ⟨b,off,none⟩)) 1) w PK K=K (.pointer (some ⟨b,off+1,none⟩)) w:=f_addr fo_p1
theorem fa_p2 {b off:Nat}:DoX prog (mFA 44 (.pointer (some ⟨b,off,none⟩)) 2) w PK K=K (.pointer (some ⟨b,off+2,none⟩)) w:=f_addr fo_p2
theorem o_opb (o:Cop){va:Value}(ha:va.oneCell'=true)(ho:OwnS S w0 w L)(k:∀b w',OwnS S w0 w' (opE b o va::L)→K (.pointer (some ⟨b,0,none⟩)) w'):DoX prog (mBox 44 (opV o va)) w PK K:=by
 cases va<;>first|(cases ha;done)|exact o_new (fun b=>.pointer (some ⟨b,0,none⟩)) (opC o _) 44 (fun _=>by kernel_rfl) ho k
theorem o_opa (ho:OwnS S w0 w L)(k:∀b w',OwnS S w0 w' (opE b Cs.op0 nilS::L)→K (.pointer (some ⟨b,0,none⟩)) w'):DoX prog (mAlloc 44) w PK K:=
 o_new (fun b=>.pointer (some ⟨b,0,none⟩)) (opC Cs.op0 nilS) 44 (fun _=>by kernel_rfl) ho k
theorem op_put (j:Nat){b:Nat}{o o':Cop}{va va':Value}(ha:va'.oneCell'=true)(ho:OwnS S w0 w L)(hi:L[j]?=some (opE b o va))(k:∀w',OwnS S w0 w' (L.set j (opE b o' va'))→K undef w') :
  DoX prog (mStore 44 (.pointer (some ⟨b,0,none⟩)) (opV o' va')) w PK K:=o_put j ho hi (new:=opC o' va') szOp (opC_one o' ha) rfl k
theorem op_n (ho:OwnS S w0 w L)(j:Nat){b:Nat}{o:Cop}{va:Value}(hi:L[j]?=some (opE b o va)):DoX prog (mLoad 9 (.pointer (some ⟨b,0,none⟩))) w PK K=K (.string ⟨o.name.toArray⟩) w:=l_cell nStr5 (ho.cell j hi 0 rfl)
theorem op_a (ho:OwnS S w0 w L)(j:Nat){b:Nat}{o:Cop}{va:Value}(hi:L[j]?=some (opE b o va)):DoX prog (mLoad 40 (.pointer (some ⟨b,0+1,none⟩))) w PK K=K va w:=l_cell nSlOb (ho.cell j hi 1 rfl)
theorem op_d (ho:OwnS S w0 w L)(j:Nat){b:Nat}{o:Cop}{va:Value}(hi:L[j]?=some (opE b o va)):DoX prog (mLoad 9 (.pointer (some ⟨b,0+2,none⟩))) w PK K=K (.string ⟨o.data.toArray⟩) w:=l_cell nStr5 (ho.cell j hi 2 rfl)
theorem op_v (ho:OwnS S w0 w L)(j:Nat){b:Nat}{o:Cop}{va:Value}(hi:L[j]?=some (opE b o va)):DoX prog (mLoad 44 (.pointer (some ⟨b,0,none⟩))) w PK K=K (opV o va) w:=l_at (ho.agg j hi aggOp)
end
theorem op_at {M:Mem}{vl:Value}{l:List Cop}{cs:List Value}(hs:SlA M.A M.w vl 3 l.length cs)(hall:PVs M.A M.w cs l){i:Nat}(hi:i < l.length) :
  ∃(va:Value) (acs:List Value) (b off:Nat),OpAt M.A M.w l[i] va acs∧∀W,M.has W→(mIA 23 vl (.int .i64 (i:Int))).run prog W=.ok (.value (.pointer (some ⟨b,off,none⟩))) W∧∀j u,(opC l[i] va)[j]?=some u→W.cell? ⟨b,off+j,none⟩=some u:=by
 obtain⟨b,off,cap,rfl,_⟩:=sl_open hs.1 (by omega);obtain⟨a,⟨va,acs,rfl,ho⟩,hget⟩:=Rws.get opR_len i hi hall;refine⟨va,acs,b,off+i*3,ho,fun W hW=>⟨?_,fun j u hj=>?_⟩⟩
 ·have:=run_ia (P:=prog) (T:=23) (b:=b) (off:=off) (cap:=cap) (n:=l.length) (k:=.i64) (i:=(i:Int)) (w:=W) Tryz.underlying23 szOp (by omega) (by omega);rw[Int.toNat_natCast] at this;exact this
 ·have:=Sl.cellAt (hs.now hW) (i*3+j) u (hget j u hj)
  rwa [←Nat.add_assoc] at this
theorem run_op {W:World}{b off:Nat}{o:Cop}{va:Value}(h:∀j u,(opC o va)[j]?=some u→W.cell? ⟨b,off+j,none⟩=some u):(mLoad 44 (.pointer (some ⟨b,off,none⟩))).run prog W=.ok (.value (opV o va)) W:=
 run_load_at (AtV.agg aggOp (cs:=opC o va) rfl h)
end
section
open Eng
def S_ops_fail (t0 t1:Value)(w:World)(K:Ending→World→Prop):Prop:=
 DoX prog (mBuild 26 #[(0,t0),(1,t1)]) w (pk K) fun t6 w=>
 DoX prog (mIface 26 t6) w (pk K) fun t7 w=>
 DoX prog (mPanic t7) w (pk K) fun _ w=>
 K (.returned (.tuple #[])) w
theorem S_ops_fail_eq (t0 t1:Value)(w:World)(K:Ending→World→Prop):wpX prog 8 [] [] none (bodyOf Tryz.f63) (topQ prog [] K) (startX [t0,t1]) [] w=S_ops_fail t0 t1 w K:=by kernel_rfl
theorem S_ops_fail_ok {t0 t1:Value}{w:World}{K:Ending→World→Prop}(h:S_ops_fail t0 t1 w K):Calls prog 63 #[t0,t1] w K:=
 calls_of_wpX Tryz.func63 rfl rfl rfl rfl (Eq.mpr (S_ops_fail_eq t0 t1 w K) h)
def S_ops_must (t0 t1 t2:Value)(w:World)(K:Ending→World→Prop):Prop:=
 DoX prog (mUn .not t0) w (pk K) fun t7 w=>
 IfX t7 (CallX prog 63 #[t1,t2] w (pk K) fun t10 w=>
 K (.returned (.tuple #[])) w) (K (.returned (.tuple #[])) w)
theorem S_ops_must_eq (t0 t1 t2:Value)(w:World)(K:Ending→World→Prop):wpX prog 11 [] [] none (bodyOf Tryz.f37) (topQ prog [] K) (startX [t0,t1,t2]) [] w=S_ops_must t0 t1 t2 w K:=by kernel_rfl
theorem S_ops_must_ok {t0 t1 t2:Value}{w:World}{K:Ending→World→Prop}(h:S_ops_must t0 t1 t2 w K):Calls prog 37 #[t0,t1,t2] w K:=
 calls_of_wpX Tryz.func37 rfl rfl rfl rfl (Eq.mpr (S_ops_must_eq t0 t1 t2 w K) h)
def S_ops_constant (t0:Value)(w:World)(K:Ending→World→Prop):Prop:=
 DoX prog (mEq .eql 9 (.tmp 3) (.const (.string ⟨#[116,114,117,101]⟩)) t0 (.string ⟨#[116,114,117,101]⟩)) w (pk K) fun t4 w=>
 GDo t4 false (fun E=>E t0 w) w fun t6 w=>
 GDo t4 false (fun E=>DoX prog (mEq .eql 9 (.tmp 6) (.const (.string ⟨#[102,97,108,115,101]⟩)) t6 (.string ⟨#[102,97,108,115,101]⟩)) w (pk K) E) w fun t7 w=>
 DoX prog (mPick t4 (.bool true) t7) w (pk K) fun t8 w=>
 GDo t8 false (fun E=>E t0 w) w fun t10 w=>
 GDo t8 false (fun E=>DoX prog (mEq .eql 9 (.tmp 10) (.const (.string ⟨#[110,117,108,108]⟩)) t10 (.string ⟨#[110,117,108,108]⟩)) w (pk K) E) w fun t11 w=>
 DoX prog (mPick t8 (.bool true) t11) w (pk K) fun t12 w=>
 K (.returned t12) w
theorem S_ops_constant_eq (t0:Value)(w:World)(K:Ending→World→Prop):wpX prog 13 [] [] none (bodyOf Tryz.f38) (topQ prog [.tmp 2] K) (startX [t0]) [] w=S_ops_constant t0 w K:=by kernel_rfl
theorem S_ops_constant_ok {t0:Value}{w:World}{K:Ending→World→Prop}(h:S_ops_constant t0 w K):Calls prog 38 #[t0] w K:=
 calls_of_wpX Tryz.func38 rfl rfl rfl rfl (Eq.mpr (S_ops_constant_eq t0 w K) h)
def S_ops_refers (t0:Value)(w:World)(K:Ending→World→Prop):Prop:=
 DoX prog (mBox 42 t0) w (pk K) fun t1 w=>
 DoX prog (mFA 42 t1 0) w (pk K) fun t3 w=>
 DoX prog (mLoad 3 t3) w (pk K) fun t4 w=>
 DoX prog (mEq .eql 3 (.tmp 4) (.const (.int .i64 8)) t4 (.int .i64 8)) w (pk K) fun t5 w=>
 GDo t5 false (fun E=>DoX prog (mFA 42 t1 5) w (pk K) E) w fun t7 w=>
 GDo t5 false (fun E=>DoX prog (mLoad 40 t7) w (pk K) E) w fun t8 w=>
 GDo t5 false (fun E=>CallX prog 88 #[t8,(.func (.func 51) #[] #[])] w (pk K) E) w fun t9 w=>
 DoX prog (mPick t5 (.bool true) t9) w (pk K) fun t10 w=>
 K (.returned t10) w
theorem S_ops_refers_eq (t0:Value)(w:World)(K:Ending→World→Prop):wpX prog 11 [] [] none (bodyOf Tryz.f51) (topQ prog [.tmp 2] K) (startX [t0]) [] w=S_ops_refers t0 w K:=by kernel_rfl
theorem S_ops_refers_ok {t0:Value}{w:World}{K:Ending→World→Prop}(h:S_ops_refers t0 w K):Calls prog 51 #[t0] w K:=
 calls_of_wpX Tryz.func51 rfl rfl rfl rfl (Eq.mpr (S_ops_refers_eq t0 w K) h)
def S_ops_ends (t0 t1:Value)(w:World)(K:Ending→World→Prop):Prop:=
 DoX prog (mIx 9 t0 t1) w (pk K) fun t7 w=>
 CallX prog 90 #[t7] w (pk K) fun t8 w=>
 DoX prog (mUn .not t8) w (pk K) fun t9 w=>
 GDo t9 false (fun E=>E t0 w) w fun t11 w=>
 GDo t9 false (fun E=>E t1 w) w fun t12 w=>
 GDo t9 false (fun E=>DoX prog (mBin .add 3 t12 (.int .i64 1)) w (pk K) E) w fun t13 w=>
 GDo t9 false (fun E=>CallX prog 100 #[t11,(.string ⟨#[69,73]⟩),t13] w (pk K) E) w fun t14 w=>
 GDo t9 false (fun E=>DoX prog (mUn .not t14) w (pk K) E) w fun t15 w=>
 DoX prog (mPick t9 (.bool true) t15) w (pk K) fun t16 w=>
 IfX t16 (K (.returned (.bool false)) w) (DoX prog (mBin .add 3 t1 (.int .i64 3)) w (pk K) fun t18 w=>
 DoX prog (mB .len #[9] 3 #[false] #[t0]) w (pk K) fun t20 w=>
 DoX prog (mEq .eql 3 (.tmp 18) (.tmp 20) t18 t20) w (pk K) fun t21 w=>
 GDo t21 false (fun E=>E t0 w) w fun t23 w=>
 GDo t21 false (fun E=>E t1 w) w fun t24 w=>
 GDo t21 false (fun E=>DoX prog (mBin .add 3 t24 (.int .i64 3)) w (pk K) E) w fun t25 w=>
 GDo t21 false (fun E=>DoX prog (mIx 9 t23 t25) w (pk K) E) w fun t26 w=>
 GDo t21 false (fun E=>CallX prog 90 #[t26] w (pk K) E) w fun t27 w=>
 DoX prog (mPick t21 (.bool true) t27) w (pk K) fun t28 w=>
 K (.returned t28) w)
theorem S_ops_ends_eq (t0 t1:Value)(w:World)(K:Ending→World→Prop):wpX prog 29 [] [] none (bodyOf Tryz.f109) (topQ prog [.tmp 4] K) (startX [t0,t1]) [] w=S_ops_ends t0 t1 w K:=by kernel_rfl
theorem S_ops_ends_ok {t0 t1:Value}{w:World}{K:Ending→World→Prop}(h:S_ops_ends t0 t1 w K):Calls prog 109 #[t0,t1] w K:=
 calls_of_wpX Tryz.func109 rfl rfl rfl rfl (Eq.mpr (S_ops_ends_eq t0 t1 w K) h)
def S_ops_named (t0:Value)(w:World)(K:Ending→World→Prop):Prop:=
 CallX prog 61 #[t0,(.int .i64 0)] w (pk K) fun t7 w=>
 DoX prog (mExt t7 0) w (pk K) fun t8 w=>
 DoX prog (mExt t7 1) w (pk K) fun t9 w=>
 DoX prog (mAlloc 53) w (pk K) fun t3 w=>
 DoX prog (mStore 53 t3 t8) w (pk K) fun _ w=>
 DoX prog (mEq .neq 24 (.tmp 10) (.const (.int .i64 0)) t9 (.int .i64 0)) w (pk K) fun t11 w=>
 GDo t11 false (fun E=>DoX prog (mFA 53 t3 0) w (pk K) E) w fun t13 w=>
 GDo t11 false (fun E=>DoX prog (mLoad 3 t13) w (pk K) E) w fun t14 w=>
 GDo t11 false (fun E=>DoX prog (mEq .neq 3 (.tmp 14) (.const (.int .i64 5)) t14 (.int .i64 5)) w (pk K) E) w fun t15 w=>
 DoX prog (mPick t11 (.bool true) t15) w (pk K) fun t16 w=>
 GDo t16 false (fun E=>DoX prog (mFA 53 t3 1) w (pk K) E) w fun t18 w=>
 GDo t16 false (fun E=>DoX prog (mLoad 3 t18) w (pk K) E) w fun t19 w=>
 GDo t16 false (fun E=>DoX prog (mEq .neq 3 (.tmp 19) (.const (.int .i64 0)) t19 (.int .i64 0)) w (pk K) E) w fun t20 w=>
 DoX prog (mPick t16 (.bool true) t20) w (pk K) fun t21 w=>
 GDo t21 false (fun E=>DoX prog (mFA 53 t3 2) w (pk K) E) w fun t23 w=>
 GDo t21 false (fun E=>DoX prog (mLoad 3 t23) w (pk K) E) w fun t24 w=>
 GDo t21 false (fun E=>E t0 w) w fun t25 w=>
 GDo t21 false (fun E=>DoX prog (mB .len #[9] 3 #[false] #[t25]) w (pk K) E) w fun t26 w=>
 GDo t21 false (fun E=>DoX prog (mEq .neq 3 (.tmp 24) (.tmp 26) t24 t26) w (pk K) E) w fun t27 w=>
 DoX prog (mPick t21 (.bool true) t27) w (pk K) fun t28 w=>
 IfX t28 (K (.returned (.bool false)) w) (CallX prog 38 #[t0] w (pk K) fun t30 w=>
 DoX prog (mUn .not t30) w (pk K) fun t31 w=>
 GDo t31 true (fun E=>DoX prog (mBuildS 39 4 #[(0,(.string ⟨#[82]⟩)),(1,(.string ⟨#[66,73]⟩)),(2,(.string ⟨#[73,68]⟩)),(3,(.string ⟨#[69,73]⟩))]) w (pk K) E) w fun t33 w=>
 GDo t31 true (fun E=>E t0 w) w fun t34 w=>
 GDo t31 true (fun E=>CallX prog 32 #[t33,t34] w (pk K) E) w fun t35 w=>
 GDo t31 true (fun E=>DoX prog (mUn .not t35) w (pk K) E) w fun t36 w=>
 DoX prog (mPick t31 t36 (.bool false)) w (pk K) fun t37 w=>
 K (.returned t37) w)
theorem S_ops_named_eq (t0:Value)(w:World)(K:Ending→World→Prop):wpX prog 38 [] [] none (bodyOf Tryz.f84) (topQ prog [.tmp 2] K) (startX [t0]) [] w=S_ops_named t0 w K:=by kernel_rfl
theorem S_ops_named_ok {t0:Value}{w:World}{K:Ending→World→Prop}(h:S_ops_named t0 w K):Calls prog 84 #[t0] w K:=
 calls_of_wpX Tryz.func84 rfl rfl rfl rfl (Eq.mpr (S_ops_named_eq t0 w K) h)
def S_ops_shown_0 (t0 t5 t6:Value)(w:World)(N1:List Value→World→Prop)(K:Ending→World→Prop):Prop:=
 DoX prog (mBin .lss 3 t6 t5) w (pk K) fun t7 w=>
 IfX t7 (CallX prog 109 #[t0,t6] w (pk K) fun t11 w=>
 IfX t11 (K (.returned (.bool false)) w) (DoX prog (mBin .add 3 t6 (.int .i64 1)) w (pk K) fun t12 w=>
 N1 [t12] w)) (K (.returned (.bool true)) w)
def S_ops_shown (t0:Value)(w:World)(K:Ending→World→Prop):Prop:=
 DoX prog (mB .len #[9] 3 #[false] #[t0]) w (pk K) fun t5 w=>
 LoopX [(.int .i64 0)] w (fun vs1 w N1=>∀_:Sg,S_ops_shown_0 t0 t5 (vs1.getD 0 undef) w N1 K)
theorem S_ops_shown_eq (t0:Value)(w:World)(K:Ending→World→Prop):wpX prog 13 [] [(2,[6])] none (bodyOf Tryz.f83) (topQ prog [.tmp 2] K) (startX [t0]) [] w=S_ops_shown t0 w K:=by kernel_rfl
theorem S_ops_shown_ok {t0:Value}{w:World}{K:Ending→World→Prop}(h:S_ops_shown t0 w K):Calls prog 83 #[t0] w K:=
 calls_of_wpX Tryz.func83 rfl rfl rfl rfl (Eq.mpr (S_ops_shown_eq t0 w K) h)
def S_ops_form (t0:Value)(w:World)(K:Ending→World→Prop):Prop:=
 DoX prog (mBox 44 t0) w (pk K) fun t1 w=>
 DoX prog (mFA 44 t1 0) w (pk K) fun t3 w=>
 DoX prog (mLoad 9 t3) w (pk K) fun t4 w=>
 DoX prog (mEq .eql 9 (.tmp 4) (.const (.string ⟨#[66,73]⟩)) t4 (.string ⟨#[66,73]⟩)) w (pk K) fun t5 w=>
 IfX t5 (DoX prog (mFA 44 t1 1) w (pk K) fun t6 w=>
 DoX prog (mLoad 40 t6) w (pk K) fun t7 w=>
 DoX prog (mB .len #[40] 3 #[false] #[t7]) w (pk K) fun t8 w=>
 DoX prog (mEq .eql 3 (.tmp 8) (.const (.int .i64 1)) t8 (.int .i64 1)) w (pk K) fun t9 w=>
 GDo t9 true (fun E=>DoX prog (mFA 44 t1 1) w (pk K) E) w fun t11 w=>
 GDo t9 true (fun E=>DoX prog (mLoad 40 t11) w (pk K) E) w fun t12 w=>
 GDo t9 true (fun E=>DoX prog (mIA 40 t12 (.int .i64 0)) w (pk K) E) w fun t13 w=>
 GDo t9 true (fun E=>DoX prog (mFA 42 t13 0) w (pk K) E) w fun t14 w=>
 GDo t9 true (fun E=>DoX prog (mLoad 3 t14) w (pk K) E) w fun t15 w=>
 GDo t9 true (fun E=>DoX prog (mEq .eql 3 (.tmp 15) (.const (.int .i64 7)) t15 (.int .i64 7)) w (pk K) E) w fun t16 w=>
 DoX prog (mPick t9 t16 (.bool false)) w (pk K) fun t17 w=>
 GDo t17 true (fun E=>DoX prog (mFA 44 t1 2) w (pk K) E) w fun t19 w=>
 GDo t17 true (fun E=>DoX prog (mLoad 9 t19) w (pk K) E) w fun t20 w=>
 GDo t17 true (fun E=>CallX prog 83 #[t20] w (pk K) E) w fun t21 w=>
 DoX prog (mPick t17 t21 (.bool false)) w (pk K) fun t22 w=>
 K (.returned t22) w) (DoX prog (mFA 44 t1 0) w (pk K) fun t23 w=>
 DoX prog (mLoad 9 t23) w (pk K) fun t24 w=>
 CallX prog 84 #[t24] w (pk K) fun t25 w=>
 GDo t25 true (fun E=>DoX prog (mFA 44 t1 1) w (pk K) E) w fun t27 w=>
 GDo t25 true (fun E=>DoX prog (mLoad 40 t27) w (pk K) E) w fun t28 w=>
 GDo t25 true (fun E=>DoX prog (mB .len #[40] 3 #[false] #[t28]) w (pk K) E) w fun t29 w=>
 GDo t25 true (fun E=>DoX prog (mBin .leq 3 t29 (.int .i64 32)) w (pk K) E) w fun t30 w=>
 DoX prog (mPick t25 t30 (.bool false)) w (pk K) fun t31 w=>
 GDo t31 true (fun E=>DoX prog (mFA 44 t1 2) w (pk K) E) w fun t33 w=>
 GDo t31 true (fun E=>DoX prog (mLoad 9 t33) w (pk K) E) w fun t34 w=>
 GDo t31 true (fun E=>DoX prog (mEq .eql 9 (.tmp 34) (.const (.string ⟨#[]⟩)) t34 (.string ⟨#[]⟩)) w (pk K) E) w fun t35 w=>
 DoX prog (mPick t31 t35 (.bool false)) w (pk K) fun t36 w=>
 K (.returned t36) w)
theorem S_ops_form_eq (t0:Value)(w:World)(K:Ending→World→Prop):wpX prog 37 [] [] none (bodyOf Tryz.f49) (topQ prog [.tmp 2] K) (startX [t0]) [] w=S_ops_form t0 w K:=by kernel_rfl
theorem S_ops_form_ok {t0:Value}{w:World}{K:Ending→World→Prop}(h:S_ops_form t0 w K):Calls prog 49 #[t0] w K:=
 calls_of_wpX Tryz.func49 rfl rfl rfl rfl (Eq.mpr (S_ops_form_eq t0 w K) h)
def S_ops_may_1 (t25 t26 t27:Value)(w:World)(N2:List Value→World→Prop)(K:Ending→World→Prop):Prop:=
 DoX prog (mBin .lss 3 t27 t26) w (pk K) fun t28 w=>
 IfX t28 (DoX prog (mIA 40 t25 t27) w (pk K) fun t29 w=>
 DoX prog (mLoad 42 t29) w (pk K) fun t30 w=>
 DoX prog (mAlloc 42) w (pk K) fun t7 w=>
 DoX prog (mStore 42 t7 t30) w (pk K) fun _ w=>
 DoX prog (mLoad 42 t7) w (pk K) fun t31 w=>
 CallX prog 51 #[t31] w (pk K) fun t32 w=>
 GDo t32 false (fun E=>DoX prog (mFA 42 t7 0) w (pk K) E) w fun t34 w=>
 GDo t32 false (fun E=>DoX prog (mLoad 3 t34) w (pk K) E) w fun t35 w=>
 GDo t32 false (fun E=>DoX prog (mEq .eql 3 (.tmp 35) (.const (.int .i64 9)) t35 (.int .i64 9)) w (pk K) E) w fun t36 w=>
 DoX prog (mPick t32 (.bool true) t36) w (pk K) fun t37 w=>
 IfX t37 (K (.returned (.int .i64 10)) w) (DoX prog (mBin .add 3 t27 (.int .i64 1)) w (pk K) fun t38 w=>
 N2 [t38] w)) (K (.returned (.int .i64 0)) w)
def S_ops_may_0 (t1 t12 t13 t14:Value)(w:World)(N1:List Value→World→Prop)(K:Ending→World→Prop):Prop:=
 DoX prog (mBin .lss 3 t14 t13) w (pk K) fun t15 w=>
 IfX t15 (DoX prog (mIA 40 t12 t14) w (pk K) fun t16 w=>
 DoX prog (mLoad 42 t16) w (pk K) fun t17 w=>
 DoX prog (mAlloc 42) w (pk K) fun t4 w=>
 DoX prog (mStore 42 t4 t17) w (pk K) fun _ w=>
 DoX prog (mLoad 42 t4) w (pk K) fun t18 w=>
 CallX prog 50 #[t18] w (pk K) fun t19 w=>
 DoX prog (mEq .neq 24 (.tmp 20) (.const (.int .i64 0)) t19 (.int .i64 0)) w (pk K) fun t21 w=>
 IfX t21 (K (.returned t19) w) (DoX prog (mBin .add 3 t14 (.int .i64 1)) w (pk K) fun t23 w=>
 N1 [t23] w)) (DoX prog (mFA 44 t1 1) w (pk K) fun t24 w=>
 DoX prog (mLoad 40 t24) w (pk K) fun t25 w=>
 DoX prog (mB .len #[40] 3 #[false] #[t25]) w (pk K) fun t26 w=>
 LoopX [(.int .i64 0)] w (fun vs2 w N2=>∀_:Sg,S_ops_may_1 t25 t26 (vs2.getD 0 undef) w N2 K))
def S_ops_may (t0:Value)(w:World)(K:Ending→World→Prop):Prop:=
 DoX prog (mBox 44 t0) w (pk K) fun t1 w=>
 DoX prog (mLoad 44 t1) w (pk K) fun t8 w=>
 CallX prog 49 #[t8] w (pk K) fun t9 w=>
 DoX prog (mUn .not t9) w (pk K) fun t10 w=>
 IfX t10 (K (.returned (.int .i64 3)) w) (DoX prog (mFA 44 t1 1) w (pk K) fun t11 w=>
 DoX prog (mLoad 40 t11) w (pk K) fun t12 w=>
 DoX prog (mB .len #[40] 3 #[false] #[t12]) w (pk K) fun t13 w=>
 LoopX [(.int .i64 0)] w (fun vs1 w N1=>∀_:Sg,S_ops_may_0 t1 t12 t13 (vs1.getD 0 undef) w N1 K))
theorem S_ops_may_eq (t0:Value)(w:World)(K:Ending→World→Prop):wpX prog 39 [] [(4,[14]),(11,[27])] none (bodyOf Tryz.f26) (topQ prog [.tmp 2] K) (startX [t0]) [] w=S_ops_may t0 w K:=by kernel_rfl
theorem S_ops_may_ok {t0:Value}{w:World}{K:Ending→World→Prop}(h:S_ops_may t0 w K):Calls prog 26 #[t0] w K:=
 calls_of_wpX Tryz.func26 rfl rfl rfl rfl (Eq.mpr (S_ops_may_eq t0 w K) h)
def S_ops_parts_1 (t1 t3 t58 t59 t60:Value)(w:World)(N2:List Value→World→Prop)(K:Ending→World→Prop):Prop:=
 DoX prog (mBin .lss 3 t60 t59) w (pk K) fun t61 w=>
 IfX t61 (DoX prog (mIA 40 t58 t60) w (pk K) fun t62 w=>
 DoX prog (mLoad 42 t62) w (pk K) fun t63 w=>
 DoX prog (mAlloc 42) w (pk K) fun t11 w=>
 DoX prog (mStore 42 t11 t63) w (pk K) fun _ w=>
 DoX prog (mLoad 42 t11) w (pk K) fun t65 w=>
 CallX prog 56 #[t65] w (pk K) fun t66 w=>
 DoX prog (mExt t66 0) w (pk K) fun t67 w=>
 DoX prog (mExt t66 1) w (pk K) fun t68 w=>
 DoX prog (mBuildS 39 1 #[(0,t67)]) w (pk K) fun t71 w=>
 DoX prog (mB .append #[39,39] 39 #[false,false] #[t3,t71]) w (pk K) fun t72 w=>
 DoX prog (mBin .add 3 t60 (.int .i64 1)) w (pk K) fun t73 w=>
 N2 [t72,t73] w) (DoX prog (mFA 44 t1 0) w (pk K) fun t75 w=>
 DoX prog (mLoad 9 t75) w (pk K) fun t76 w=>
 DoX prog (mBuildS 39 1 #[(0,t76)]) w (pk K) fun t77 w=>
 DoX prog (mB .append #[39,39] 39 #[false,false] #[t3,t77]) w (pk K) fun t78 w=>
 K (.returned t78) w)
def S_ops_parts_0 (t1 t3 t24 t25 t26:Value)(w:World)(N1:List Value→World→Prop)(K:Ending→World→Prop):Prop:=
 DoX prog (mBin .lss 3 t26 t25) w (pk K) fun t27 w=>
 IfX t27 (DoX prog (mIA 39 t24 t26) w (pk K) fun t29 w=>
 DoX prog (mLoad 9 t29) w (pk K) fun t30 w=>
 CallX prog 55 #[t30] w (pk K) fun t33 w=>
 DoX prog (mExt t33 0) w (pk K) fun t34 w=>
 DoX prog (mExt t33 1) w (pk K) fun t35 w=>
 DoX prog (mFA 44 t1 1) w (pk K) fun t37 w=>
 DoX prog (mLoad 40 t37) w (pk K) fun t38 w=>
 DoX prog (mIA 40 t38 (.int .i64 0)) w (pk K) fun t39 w=>
 DoX prog (mFA 42 t39 5) w (pk K) fun t40 w=>
 DoX prog (mLoad 40 t40) w (pk K) fun t41 w=>
 DoX prog (mIA 40 t41 t26) w (pk K) fun t43 w=>
 DoX prog (mLoad 42 t43) w (pk K) fun t44 w=>
 CallX prog 56 #[t44] w (pk K) fun t45 w=>
 DoX prog (mExt t45 0) w (pk K) fun t46 w=>
 DoX prog (mExt t45 1) w (pk K) fun t47 w=>
 DoX prog (mBuildS 39 2 #[(0,t34),(1,t46)]) w (pk K) fun t51 w=>
 DoX prog (mB .append #[39,39] 39 #[false,false] #[t3,t51]) w (pk K) fun t52 w=>
 DoX prog (mBin .add 3 t26 (.int .i64 1)) w (pk K) fun t53 w=>
 N1 [t52,t53] w) (DoX prog (mBuildS 39 1 #[(0,(.string ⟨#[73,68]⟩))]) w (pk K) fun t55 w=>
 DoX prog (mB .append #[39,39] 39 #[false,false] #[t3,t55]) w (pk K) fun t56 w=>
 K (.returned t56) w)
def S_ops_parts (t0:Value)(w:World)(K:Ending→World→Prop):Prop:=
 DoX prog (mBox 44 t0) w (pk K) fun t1 w=>
 DoX prog (mFA 44 t1 0) w (pk K) fun t14 w=>
 DoX prog (mLoad 9 t14) w (pk K) fun t15 w=>
 DoX prog (mEq .eql 9 (.tmp 15) (.const (.string ⟨#[66,73]⟩)) t15 (.string ⟨#[66,73]⟩)) w (pk K) fun t16 w=>
 IfX t16 (DoX prog (mBuildS 39 1 #[(0,(.string ⟨#[66,73]⟩))]) w (pk K) fun t18 w=>
 DoX prog (mB .append #[39,39] 39 #[false,false] #[(.slice none 0 0),t18]) w (pk K) fun t19 w=>
 DoX prog (mFA 44 t1 1) w (pk K) fun t20 w=>
 DoX prog (mLoad 40 t20) w (pk K) fun t21 w=>
 DoX prog (mIA 40 t21 (.int .i64 0)) w (pk K) fun t22 w=>
 DoX prog (mFA 42 t22 4) w (pk K) fun t23 w=>
 DoX prog (mLoad 39 t23) w (pk K) fun t24 w=>
 DoX prog (mB .len #[39] 3 #[false] #[t24]) w (pk K) fun t25 w=>
 LoopX [t19,(.int .i64 0)] w (fun vs1 w N1=>∀_:Sg,S_ops_parts_0 t1 (vs1.getD 0 undef) t24 t25 (vs1.getD 1 undef) w N1 K)) (DoX prog (mFA 44 t1 1) w (pk K) fun t57 w=>
 DoX prog (mLoad 40 t57) w (pk K) fun t58 w=>
 DoX prog (mB .len #[40] 3 #[false] #[t58]) w (pk K) fun t59 w=>
 LoopX [(.slice none 0 0),(.int .i64 0)] w (fun vs2 w N2=>∀_:Sg,S_ops_parts_1 t1 (vs2.getD 0 undef) t58 t59 (vs2.getD 1 undef) w N2 K))
theorem S_ops_parts_eq (t0:Value)(w:World)(K:Ending→World→Prop):wpX prog 79 [] [(5,[3,26]),(13,[3,60])] none (bodyOf Tryz.f29) (topQ prog [.tmp 2] K) (startX [t0]) [] w=S_ops_parts t0 w K:=by kernel_rfl
theorem S_ops_parts_ok {t0:Value}{w:World}{K:Ending→World→Prop}(h:S_ops_parts t0 w K):Calls prog 29 #[t0] w K:=
 calls_of_wpX Tryz.func29 rfl rfl rfl rfl (Eq.mpr (S_ops_parts_eq t0 w K) h)
def S_ops_fits (t0 t1:Value)(w:World)(K:Ending→World→Prop):Prop:=
 DoX prog (mEq .eql 21 (.tmp 5) (.const (.int .i32 110)) t0 (.int .i32 110)) w (pk K) fun t7 w=>
 IfX t7 (DoX prog (mEq .eql 3 (.tmp 8) (.const (.int .i64 2)) t1 (.int .i64 2)) w (pk K) fun t9 w=>
 GDo t9 false (fun E=>E t1 w) w fun t11 w=>
 GDo t9 false (fun E=>DoX prog (mEq .eql 3 (.tmp 11) (.const (.int .i64 3)) t11 (.int .i64 3)) w (pk K) E) w fun t12 w=>
 DoX prog (mPick t9 (.bool true) t12) w (pk K) fun t13 w=>
 K (.returned t13) w) (DoX prog (mEq .eql 21 (.tmp 5) (.const (.int .i32 115)) t0 (.int .i32 115)) w (pk K) fun t15 w=>
 IfX t15 (DoX prog (mEq .eql 3 (.tmp 16) (.const (.int .i64 4)) t1 (.int .i64 4)) w (pk K) fun t17 w=>
 K (.returned t17) w) (DoX prog (mEq .eql 21 (.tmp 5) (.const (.int .i32 78)) t0 (.int .i32 78)) w (pk K) fun t19 w=>
 IfX t19 (DoX prog (mEq .eql 3 (.tmp 20) (.const (.int .i64 5)) t1 (.int .i64 5)) w (pk K) fun t21 w=>
 K (.returned t21) w) (DoX prog (mEq .eql 21 (.tmp 5) (.const (.int .i32 97)) t0 (.int .i32 97)) w (pk K) fun t23 w=>
 IfX t23 (DoX prog (mEq .eql 3 (.tmp 24) (.const (.int .i64 6)) t1 (.int .i64 6)) w (pk K) fun t25 w=>
 K (.returned t25) w) (DoX prog (mEq .eql 21 (.tmp 5) (.const (.int .i32 100)) t0 (.int .i32 100)) w (pk K) fun t27 w=>
 IfX t27 (DoX prog (mEq .eql 3 (.tmp 28) (.const (.int .i64 7)) t1 (.int .i64 7)) w (pk K) fun t29 w=>
 K (.returned t29) w) (K (.returned (.bool true)) w)))))
theorem S_ops_fits_eq (t0 t1:Value)(w:World)(K:Ending→World→Prop):wpX prog 30 [] [] none (bodyOf Tryz.f34) (topQ prog [.tmp 4] K) (startX [t0,t1]) [] w=S_ops_fits t0 t1 w K:=by kernel_rfl
theorem S_ops_fits_ok {t0 t1:Value}{w:World}{K:Ending→World→Prop}(h:S_ops_fits t0 t1 w K):Calls prog 34 #[t0,t1] w K:=
 calls_of_wpX Tryz.func34 rfl rfl rfl rfl (Eq.mpr (S_ops_fits_eq t0 t1 w K) h)
def S_ops_reader_peek_0 (t0 t2 t3 t4:Value)(w:World)(K:Ending→World→Prop):Prop:=
 QuietX w (fun C2=>
 QDo prog C2 (mEq .eql 24 (.tmp 17) (.const (.int .i64 0)) t4 (.int .i64 0)) fun t18=>
 QDo prog C2 (mNil t0) fun t20=>
 QDo prog C2 (mFA 49 t20 0) fun t21=>
 QDo prog C2 (mLoad 9 t21) fun t22=>
 QDo prog C2 (mNil t0) fun t24=>
 QDo prog C2 (mFA 49 t24 1) fun t25=>
 QDo prog C2 (mLoad 3 t25) fun t26=>
 QCall prog C2 62 #[t22,t26] fun t27=>
 ∀w,C2 w →
 CallX prog 37 #[t18,t27,t4] w (pk K) fun t29 w=>
 DoX prog (mLoad 53 t3) w (pk K) fun t30 w=>
 DoX prog (mStore 53 t2 t30) w (pk K) fun _ w=>
 RetX prog [.cell t2 53] w K)
def S_ops_reader_peek (t0:Value)(w:World)(K:Ending→World→Prop):Prop:=
 DoX prog (mAlloc 53) w (pk K) fun t2 w=>
 HeldX w (fun S1 w=>
 HDo prog (fun _=>True) (mNil t0) fun t7=>
 HDo prog (fun _=>True) (mFA 49 t7 0) fun t8=>
 HDo prog S1 (mLoad 9 t8) fun t9=>
 HDo prog (fun _=>True) (mNil t0) fun t11=>
 HDo prog (fun _=>True) (mFA 49 t11 1) fun t12=>
 HDo prog S1 (mLoad 3 t12) fun t13=>
 (CallX prog 61 #[t9,t13] w (pm1 (pm1 (pm1 (pm1 (pm1 (pm1 (pm1 (pm1 (pm1 (pm1 (pm1 (pm1 (pk K))))))))))))) fun t14 w=>
 (HDo prog (fun _=>True) (mExt t14 0) fun t15=>
 HDo prog (fun _=>True) (mExt t14 1) fun t16=>
 DoX prog (mAlloc 53) w (pm1 (pm1 (pm1 (pm1 (pm1 (pm1 (pm1 (pm1 (pm1 (pm1 (pm1 (pm1 (pk K))))))))))))) fun t3 w=>
 S1 w∧(DoX prog (mStore 53 t3 t15) w (pm1 (pm1 (pm1 (pm1 (pm1 (pm1 (pm1 (pm1 (pm1 (pm1 (pm1 (pm1 (pk K))))))))))))) fun _ w=>
 (S_ops_reader_peek_0 t0 t2 t3 t16 w K))))∧(DoX prog (mAlloc 53) w (pm1 (pm1 (pm1 (pm1 (pm1 (pm1 (pm1 (pm1 (pm1 (pm1 (pm1 (pm1 (pk K))))))))))))) fun t3_1 w=>
 S1 w∧(CallX prog 61 #[t9,t13] w (pm1 (pm1 (pm1 (pm1 (pm1 (pm1 (pm1 (pm1 (pm1 (pm1 (pm1 (pm1 (pk K))))))))))))) fun t14_1 w=>
 (HDo prog (fun _=>True) (mExt t14_1 0) fun t15_1=>
 HDo prog (fun _=>True) (mExt t14_1 1) fun t16_1=>
 DoX prog (mStore 53 t3_1 t15_1) w (pm1 (pm1 (pm1 (pm1 (pm1 (pm1 (pm1 (pm1 (pm1 (pm1 (pm1 (pm1 (pk K))))))))))))) fun _ w=>
 (S_ops_reader_peek_0 t0 t2 t3_1 t16_1 w K)))))
theorem S_ops_reader_peek_eq (t0:Value)(w:World)(K:Ending→World→Prop):wpX prog 31 [] [] none (bodyOf Tryz.f36) (topQ prog [.cell 2 53] K) (startX [t0]) [] w=S_ops_reader_peek t0 w K:=by kernel_rfl
theorem S_ops_reader_peek_ok {t0:Value}{w:World}{K:Ending→World→Prop}(h:S_ops_reader_peek t0 w K):Calls prog 36 #[t0] w K:=
 calls_of_wpX Tryz.func36 rfl rfl rfl rfl (Eq.mpr (S_ops_reader_peek_eq t0 w K) h)
def S_ops_reader_object_0 (t0 t3 t4 t5 t6 t7:Value)(w:World)(K:Ending→World→Prop):Prop:=
 DoX prog (mEq .eql 24 (.tmp 21) (.const (.int .i64 0)) t7 (.int .i64 0)) w (pk K) fun t22 w=>
 DoX prog (mFA 53 t3 1) w (pk K) fun t23 w=>
 DoX prog (mLoad 3 t23) w (pk K) fun t24 w=>
 CallX prog 37 #[t22,t24,t7] w (pk K) fun t26 w=>
 QuietX w (fun C2=>
 QDo prog C2 (mLoad 42 t5) fun t27=>
 QCall prog C2 51 #[t27] fun t28=>
 QDo prog C2 (mUn .not t28) fun t29=>
 QDo prog C2 (mFA 53 t3 1) fun t30=>
 QDo prog C2 (mLoad 3 t30) fun t31=>
 ∀w,C2 w →
 CallX prog 37 #[t29,t31,(.int .i64 3)] w (pk K) fun t32 w=>
 DoX prog (mNil t0) w (pk K) fun t35 w=>
 DoX prog (mFA 49 t35 1) w (pk K) fun t36 w=>
 DoX prog (mStore 3 t36 t6) w (pk K) fun _ w=>
 DoX prog (mLoad 42 t5) w (pk K) fun t37 w=>
 DoX prog (mStore 42 t4 t37) w (pk K) fun _ w=>
 RetX prog [.cell t4 42] w K)
def S_ops_reader_object (t0 t1:Value)(w:World)(K:Ending→World→Prop):Prop:=
 DoX prog (mBox 53 t1) w (pk K) fun t3 w=>
 DoX prog (mAlloc 42) w (pk K) fun t4 w=>
 HeldX w (fun S1 w=>
 HDo prog (fun _=>True) (mNil t0) fun t10=>
 HDo prog (fun _=>True) (mFA 49 t10 0) fun t11=>
 HDo prog S1 (mLoad 9 t11) fun t12=>
 HDo prog (fun _=>True) (mNil t0) fun t14=>
 HDo prog (fun _=>True) (mFA 49 t14 1) fun t15=>
 HDo prog S1 (mLoad 3 t15) fun t16=>
 (CallX prog 65 #[t12,t16] w (pm1 (pm1 (pm1 (pm1 (pm1 (pm1 (pm1 (pm1 (pm1 (pm1 (pm1 (pm1 (pm1 (pm1 (pk K))))))))))))))) fun t17 w=>
 (HDo prog (fun _=>True) (mExt t17 0) fun t18=>
 HDo prog (fun _=>True) (mExt t17 1) fun t19=>
 HDo prog (fun _=>True) (mExt t17 2) fun t20=>
 DoX prog (mAlloc 42) w (pm1 (pm1 (pm1 (pm1 (pm1 (pm1 (pm1 (pm1 (pm1 (pm1 (pm1 (pm1 (pm1 (pm1 (pk K))))))))))))))) fun t5 w=>
 S1 w∧(DoX prog (mStore 42 t5 t18) w (pm1 (pm1 (pm1 (pm1 (pm1 (pm1 (pm1 (pm1 (pm1 (pm1 (pm1 (pm1 (pm1 (pm1 (pk K))))))))))))))) fun _ w=>
 (S_ops_reader_object_0 t0 t3 t4 t5 t19 t20 w K))))∧(DoX prog (mAlloc 42) w (pm1 (pm1 (pm1 (pm1 (pm1 (pm1 (pm1 (pm1 (pm1 (pm1 (pm1 (pm1 (pm1 (pm1 (pk K))))))))))))))) fun t5_1 w=>
 S1 w∧(CallX prog 65 #[t12,t16] w (pm1 (pm1 (pm1 (pm1 (pm1 (pm1 (pm1 (pm1 (pm1 (pm1 (pm1 (pm1 (pm1 (pm1 (pk K))))))))))))))) fun t17_1 w=>
 (HDo prog (fun _=>True) (mExt t17_1 0) fun t18_1=>
 HDo prog (fun _=>True) (mExt t17_1 1) fun t19_1=>
 HDo prog (fun _=>True) (mExt t17_1 2) fun t20_1=>
 DoX prog (mStore 42 t5_1 t18_1) w (pm1 (pm1 (pm1 (pm1 (pm1 (pm1 (pm1 (pm1 (pm1 (pm1 (pm1 (pm1 (pm1 (pm1 (pk K))))))))))))))) fun _ w=>
 (S_ops_reader_object_0 t0 t3 t4 t5_1 t19_1 t20_1 w K)))))
theorem S_ops_reader_object_eq (t0 t1:Value)(w:World)(K:Ending→World→Prop):wpX prog 38 [] [] none (bodyOf Tryz.f40) (topQ prog [.cell 4 42] K) (startX [t0,t1]) [] w=S_ops_reader_object t0 t1 w K:=by kernel_rfl
theorem S_ops_reader_object_ok {t0 t1:Value}{w:World}{K:Ending→World→Prop}(h:S_ops_reader_object t0 t1 w K):Calls prog 40 #[t0,t1] w K:=
 calls_of_wpX Tryz.func40 rfl rfl rfl rfl (Eq.mpr (S_ops_reader_object_eq t0 t1 w K) h)
def S_ops_reader_white (t0 t1:Value)(w:World)(K:Ending→World→Prop):Prop:=
 DoX prog (mNil t0) w (pk K) fun t7 w=>
 DoX prog (mFA 49 t7 0) w (pk K) fun t8 w=>
 DoX prog (mLoad 9 t8) w (pk K) fun t9 w=>
 DoX prog (mB .len #[9] 3 #[false] #[t9]) w (pk K) fun t10 w=>
 DoX prog (mBin .lss 3 t1 t10) w (pk K) fun t11 w=>
 GDo t11 true (fun E=>E t0 w) w fun t13 w=>
 GDo t11 true (fun E=>DoX prog (mNil t13) w (pk K) E) w fun t14 w=>
 GDo t11 true (fun E=>DoX prog (mFA 49 t14 0) w (pk K) E) w fun t15 w=>
 GDo t11 true (fun E=>DoX prog (mLoad 9 t15) w (pk K) E) w fun t16 w=>
 GDo t11 true (fun E=>E t1 w) w fun t17 w=>
 GDo t11 true (fun E=>DoX prog (mIx 9 t16 t17) w (pk K) E) w fun t18 w=>
 GDo t11 true (fun E=>CallX prog 90 #[t18] w (pk K) E) w fun t19 w=>
 DoX prog (mPick t11 t19 (.bool false)) w (pk K) fun t20 w=>
 K (.returned t20) w
theorem S_ops_reader_white_eq (t0 t1:Value)(w:World)(K:Ending→World→Prop):wpX prog 21 [] [] none (bodyOf Tryz.f108) (topQ prog [.tmp 4] K) (startX [t0,t1]) [] w=S_ops_reader_white t0 t1 w K:=by kernel_rfl
theorem S_ops_reader_white_ok {t0 t1:Value}{w:World}{K:Ending→World→Prop}(h:S_ops_reader_white t0 t1 w K):Calls prog 108 #[t0,t1] w K:=
 calls_of_wpX Tryz.func108 rfl rfl rfl rfl (Eq.mpr (S_ops_reader_white_eq t0 t1 w K) h)
def S_ops_reader_keys_2 (t2 t3 t9 t108 t109 t110:Value)(w:World)(N4:List Value→World→Prop)(K:Ending→World→Prop):Prop:=
 DoX prog (mBin .lss 3 t110 t109) w (pk K) fun t111 w=>
 IfX t111 (DoX prog (mIA 39 t108 t110) w (pk K) fun t112 w=>
 DoX prog (mLoad 9 t112) w (pk K) fun t113 w=>
 DoX prog (mFA 42 t9 5) w (pk K) fun t114 w=>
 DoX prog (mLoad 40 t114) w (pk K) fun t115 w=>
 DoX prog (mLook 182 t3 t113 false) w (pk K) fun t118 w=>
 DoX prog (mBuildS 40 1 #[(0,t118)]) w (pk K) fun t119 w=>
 DoX prog (mB .append #[40,40] 40 #[false,false] #[t115,t119]) w (pk K) fun t120 w=>
 DoX prog (mFA 42 t9 5) w (pk K) fun t121 w=>
 DoX prog (mStore 40 t121 t120) w (pk K) fun _ w=>
 DoX prog (mBin .add 3 t110 (.int .i64 1)) w (pk K) fun t122 w=>
 N4 [t122] w) (DoX prog (mLoad 42 t9) w (pk K) fun t123 w=>
 DoX prog (mStore 42 t2 t123) w (pk K) fun _ w=>
 RetX prog [.cell t2 42] w K)
def S_ops_reader_keys_1 (t2 t3 t9 t89:Value)(w:World)(N3:List Value→World→Prop)(K:Ending→World→Prop):Prop:=
 DoX prog (mNext t89 false 0) w (pk K) fun t90 w=>
 DoX prog (mExt t90 0) w (pk K) fun t91 w=>
 IfX t91 (DoX prog (mEntry t89) w (pk K) fun t92 w=>
 DoX prog (mExt t92 0) w (pk K) fun t93 w=>
 DoX prog (mExt t92 1) w (pk K) fun t94 w=>
 DoX prog (mAlloc 42) w (pk K) fun t11 w=>
 DoX prog (mStore 42 t11 t94) w (pk K) fun _ w=>
 DoX prog (mFA 42 t11 0) w (pk K) fun t95 w=>
 DoX prog (mLoad 3 t95) w (pk K) fun t96 w=>
 DoX prog (mEq .neq 3 (.tmp 96) (.const (.int .i64 0)) t96 (.int .i64 0)) w (pk K) fun t97 w=>
 IfX t97 (DoX prog (mFA 42 t9 4) w (pk K) fun t98 w=>
 DoX prog (mLoad 39 t98) w (pk K) fun t99 w=>
 DoX prog (mBuildS 39 1 #[(0,t93)]) w (pk K) fun t101 w=>
 DoX prog (mB .append #[39,39] 39 #[false,false] #[t99,t101]) w (pk K) fun t102 w=>
 DoX prog (mFA 42 t9 4) w (pk K) fun t103 w=>
 DoX prog (mStore 39 t103 t102) w (pk K) fun _ w=>
 N3 [] w) (N3 [] w)) (DoX prog (mFA 42 t9 4) w (pk K) fun t104 w=>
 DoX prog (mLoad 39 t104) w (pk K) fun t105 w=>
 CallX prog 148 #[t105] w (pk K) fun t106 w=>
 DoX prog (mFA 42 t9 4) w (pk K) fun t107 w=>
 DoX prog (mLoad 39 t107) w (pk K) fun t108 w=>
 DoX prog (mB .len #[39] 3 #[false] #[t108]) w (pk K) fun t109 w=>
 LoopX [(.int .i64 0)] w (fun vs4 w N4=>∀_:Sg,S_ops_reader_keys_2 t2 t3 t9 t108 t109 (vs4.getD 0 undef) w N4 K))
def S_ops_reader_keys_0 (t0 t2 t3:Value)(w:World)(N1:List Value→World→Prop)(K:Ending→World→Prop):Prop:=
 CallX prog 36 #[t0] w (pk K) fun t16 w=>
 DoX prog (mAlloc 53) w (pk K) fun t4 w=>
 DoX prog (mStore 53 t4 t16) w (pk K) fun _ w=>
 QuietX w (fun C2=>
 QDo prog C2 (mFA 53 t4 0) fun t17=>
 QDo prog C2 (mLoad 3 t17) fun t18=>
 QDo prog C2 (mEq .neq 3 (.tmp 18) (.const (.int .i64 0)) t18 (.int .i64 0)) fun t19=>
 QDo prog C2 (mNil t0) fun t21=>
 QDo prog C2 (mFA 49 t21 0) fun t22=>
 QDo prog C2 (mLoad 9 t22) fun t23=>
 QDo prog C2 (mB .len #[9] 3 #[false] #[t23]) fun t24=>
 ∀w,C2 w →
 CallX prog 37 #[t19,t24,(.int .i64 4)] w (pk K) fun t25 w=>
 DoX prog (mFA 53 t4 2) w (pk K) fun t27 w=>
 DoX prog (mLoad 3 t27) w (pk K) fun t28 w=>
 DoX prog (mNil t0) w (pk K) fun t29 w=>
 DoX prog (mFA 49 t29 1) w (pk K) fun t30 w=>
 DoX prog (mStore 3 t30 t28) w (pk K) fun _ w=>
 DoX prog (mFA 53 t4 0) w (pk K) fun t31 w=>
 DoX prog (mLoad 3 t31) w (pk K) fun t32 w=>
 DoX prog (mEq .eql 3 (.tmp 32) (.const (.int .i64 5)) t32 (.int .i64 5)) w (pk K) fun t33 w=>
 GDo t33 true (fun E=>DoX prog (mFA 53 t4 4) w (pk K) E) w fun t35 w=>
 GDo t33 true (fun E=>DoX prog (mLoad 9 t35) w (pk K) E) w fun t36 w=>
 GDo t33 true (fun E=>DoX prog (mEq .eql 9 (.tmp 36) (.const (.string ⟨#[73,68]⟩)) t36 (.string ⟨#[73,68]⟩)) w (pk K) E) w fun t37 w=>
 DoX prog (mPick t33 t37 (.bool false)) w (pk K) fun t38 w=>
 IfX t38 (DoX prog (mBuild 42 #[(0,(.int .i64 7))]) w (pk K) fun t87 w=>
 DoX prog (mAlloc 42) w (pk K) fun t9 w=>
 DoX prog (mStore 42 t9 t87) w (pk K) fun _ w=>
 DoX prog (mRange 182 t3) w (pk K) fun t89 w=>
 LoopX [] w (fun vs3 w N3=>∀_:Sg,S_ops_reader_keys_1 t2 t3 t9 t89 w N3 K)) (DoX prog (mFA 53 t4 0) w (pk K) fun t39 w=>
 DoX prog (mLoad 3 t39) w (pk K) fun t40 w=>
 DoX prog (mEq .eql 3 (.tmp 40) (.const (.int .i64 4)) t40 (.int .i64 4)) w (pk K) fun t41 w=>
 DoX prog (mFA 53 t4 1) w (pk K) fun t42 w=>
 DoX prog (mLoad 3 t42) w (pk K) fun t43 w=>
 CallX prog 37 #[t41,t43,(.int .i64 3)] w (pk K) fun t44 w=>
 DoX prog (mFA 53 t4 4) w (pk K) fun t47 w=>
 DoX prog (mLoad 9 t47) w (pk K) fun t48 w=>
 DoX prog (mLook 182 t3 t48 true) w (pk K) fun t49 w=>
 DoX prog (mExt t49 0) w (pk K) fun t50 w=>
 DoX prog (mExt t49 1) w (pk K) fun t51 w=>
 DoX prog (mAlloc 42) w (pk K) fun t5 w=>
 DoX prog (mStore 42 t5 t50) w (pk K) fun _ w=>
 DoX prog (mUn .not t51) w (pk K) fun t53 w=>
 DoX prog (mFA 53 t4 1) w (pk K) fun t54 w=>
 DoX prog (mLoad 3 t54) w (pk K) fun t55 w=>
 CallX prog 37 #[t53,t55,(.int .i64 9)] w (pk K) fun t56 w=>
 DoX prog (mB .len #[182] 3 #[false] #[t3]) w (pk K) fun t58 w=>
 DoX prog (mBin .lss 3 t58 (.int .i64 8191)) w (pk K) fun t59 w=>
 DoX prog (mFA 53 t4 1) w (pk K) fun t60 w=>
 DoX prog (mLoad 3 t60) w (pk K) fun t61 w=>
 CallX prog 37 #[t59,t61,(.int .i64 6)] w (pk K) fun t62 w=>
 CallX prog 36 #[t0] w (pk K) fun t64 w=>
 DoX prog (mAlloc 53) w (pk K) fun t7 w=>
 DoX prog (mStore 53 t7 t64) w (pk K) fun _ w=>
 QuietX w (fun C5=>
 QDo prog C5 (mFA 53 t7 0) fun t65=>
 QDo prog C5 (mLoad 3 t65) fun t66=>
 QDo prog C5 (mEq .neq 3 (.tmp 66) (.const (.int .i64 0)) t66 (.int .i64 0)) fun t67=>
 QDo prog C5 (mNil t0) fun t69=>
 QDo prog C5 (mFA 49 t69 0) fun t70=>
 QDo prog C5 (mLoad 9 t70) fun t71=>
 QDo prog C5 (mB .len #[9] 3 #[false] #[t71]) fun t72=>
 ∀w,C5 w →
 CallX prog 37 #[t67,t72,(.int .i64 4)] w (pk K) fun t73 w=>
 DoX prog (mLoad 53 t7) w (pk K) fun t75 w=>
 CallX prog 40 #[t0,t75] w (pk K) fun t76 w=>
 DoX prog (mAlloc 42) w (pk K) fun t8 w=>
 DoX prog (mStore 42 t8 t76) w (pk K) fun _ w=>
 QuietX w (fun C6=>
 QDo prog C6 (mLoad 42 t8) fun t77=>
 QCall prog C6 147 #[t77] fun t78=>
 QDo prog C6 (mBin .lss 3 t78 (.int .i64 24)) fun t79=>
 QDo prog C6 (mFA 53 t7 1) fun t80=>
 QDo prog C6 (mLoad 3 t80) fun t81=>
 ∀w,C6 w →
 CallX prog 37 #[t79,t81,(.int .i64 7)] w (pk K) fun t82 w=>
 DoX prog (mFA 53 t4 4) w (pk K) fun t84 w=>
 DoX prog (mLoad 9 t84) w (pk K) fun t85 w=>
 DoX prog (mLoad 42 t8) w (pk K) fun t86 w=>
 DoX prog (mMapU 182 t3 t85 t86) w (pk K) fun _ w=>
 N1 [] w))))
def S_ops_reader_keys (t0:Value)(w:World)(K:Ending→World→Prop):Prop:=
 DoX prog (mAlloc 42) w (pk K) fun t2 w=>
 DoX prog (mMap 182 none) w (pk K) fun t14 w=>
 LoopX [] w (fun vs1 w N1=>∀_:Sg,S_ops_reader_keys_0 t0 t2 t14 w N1 K)
theorem S_ops_reader_keys_eq (t0:Value)(w:World)(K:Ending→World→Prop):wpX prog 124 [] [(2,[]),(17,[]),(23,[110])] none (bodyOf Tryz.f107) (topQ prog [.cell 2 42] K) (startX [t0]) [] w=S_ops_reader_keys t0 w K:=by kernel_rfl
theorem S_ops_reader_keys_ok {t0:Value}{w:World}{K:Ending→World→Prop}(h:S_ops_reader_keys t0 w K):Calls prog 107 #[t0] w K:=
 calls_of_wpX Tryz.func107 rfl rfl rfl rfl (Eq.mpr (S_ops_reader_keys_eq t0 w K) h)
def S_ops_reader_image_0 (t0 t2 t3 t4 t5:Value)(w:World)(N2:List Value→World→Prop)(K:Ending→World→Prop):Prop:=
 DoX prog (mNil t0) w (pk K) fun t27 w=>
 DoX prog (mFA 49 t27 0) w (pk K) fun t28 w=>
 DoX prog (mLoad 9 t28) w (pk K) fun t29 w=>
 DoX prog (mB .len #[9] 3 #[false] #[t29]) w (pk K) fun t30 w=>
 DoX prog (mBin .lss 3 t5 t30) w (pk K) fun t31 w=>
 IfX t31 (DoX prog (mNil t0) w (pk K) fun t35 w=>
 DoX prog (mFA 49 t35 0) w (pk K) fun t36 w=>
 DoX prog (mLoad 9 t36) w (pk K) fun t37 w=>
 CallX prog 109 #[t37,t5] w (pk K) fun t39 w=>
 IfX t39 (DoX prog (mBin .add 3 t5 (.int .i64 3)) w (pk K) fun t42 w=>
 DoX prog (mNil t0) w (pk K) fun t43 w=>
 DoX prog (mFA 49 t43 1) w (pk K) fun t44 w=>
 DoX prog (mStore 3 t44 t42) w (pk K) fun _ w=>
 HeldX w (fun S3 w=>
 HDo prog S3 (mLoad 42 t3) fun t45=>
 HDo prog (fun _=>True) (mNil t0) fun t48=>
 HDo prog (fun _=>True) (mFA 49 t48 0) fun t49=>
 HDo prog S3 (mLoad 9 t49) fun t50=>
 HDo prog (fun _=>True) (mSlice 9 t50 (some t4) (some t5) none) fun t53=>
 DoX prog (mBuildS 40 1 #[(0,t45)]) w (pm1 (pm1 (pm1 (pm1 (pm1 (pm1 (pm1 (pm1 (pm1 (pk K)))))))))) fun t46 w=>
 S3 w∧(HDo prog (fun _=>True) (mBuild 44 #[(0,(.string ⟨#[66,73]⟩)),(1,t46),(2,t53)]) fun t54=>
 DoX prog (mStore 44 t2 t54) w (pm1 (pm1 (pm1 (pm1 (pm1 (pm1 (pm1 (pm1 (pm1 (pk K)))))))))) fun _ w=>
 (RetX prog [.cell t2 44] w K)))) (DoX prog (mBin .add 3 t5 (.int .i64 1)) w (pk K) fun t33 w=>
 N2 [t33] w)) (DoX prog (mNil t0) w (pk K) fun t56 w=>
 DoX prog (mFA 49 t56 0) w (pk K) fun t57 w=>
 DoX prog (mLoad 9 t57) w (pk K) fun t58 w=>
 DoX prog (mB .len #[9] 3 #[false] #[t58]) w (pk K) fun t59 w=>
 CallX prog 63 #[t59,(.int .i64 4)] w (pk K) fun t60 w=>
 DoX prog (mBuild 44 #[]) w (pk K) fun t61 w=>
 DoX prog (mStore 44 t2 t61) w (pk K) fun _ w=>
 RetX prog [.cell t2 44] w K)
def S_ops_reader_image (t0:Value)(w:World)(K:Ending→World→Prop):Prop:=
 DoX prog (mAlloc 44) w (pk K) fun t2 w=>
 CallX prog 107 #[t0] w (pk K) fun t7 w=>
 DoX prog (mAlloc 42) w (pk K) fun t3 w=>
 DoX prog (mStore 42 t3 t7) w (pk K) fun _ w=>
 QuietX w (fun C1=>
 QDo prog C1 (mNil t0) fun t10=>
 QDo prog C1 (mFA 49 t10 1) fun t11=>
 QDo prog C1 (mLoad 3 t11) fun t12=>
 QCall prog C1 108 #[t0,t12] fun t13=>
 QDo prog C1 (mNil t0) fun t15=>
 QDo prog C1 (mFA 49 t15 1) fun t16=>
 QDo prog C1 (mLoad 3 t16) fun t17=>
 ∀w,C1 w →
 CallX prog 37 #[t13,t17,(.int .i64 3)] w (pk K) fun t18 w=>
 DoX prog (mNil t0) w (pk K) fun t20 w=>
 DoX prog (mFA 49 t20 1) w (pk K) fun t21 w=>
 DoX prog (mLoad 3 t21) w (pk K) fun t22 w=>
 DoX prog (mBin .add 3 t22 (.int .i64 1)) w (pk K) fun t23 w=>
 LoopX [t23] w (fun vs2 w N2=>∀_:Sg,S_ops_reader_image_0 t0 t2 t3 t23 (vs2.getD 0 undef) w N2 K))
theorem S_ops_reader_image_eq (t0:Value)(w:World)(K:Ending→World→Prop):wpX prog 62 [] [(5,[5])] none (bodyOf Tryz.f64) (topQ prog [.cell 2 44] K) (startX [t0]) [] w=S_ops_reader_image t0 w K:=by kernel_rfl
theorem S_ops_reader_image_ok {t0:Value}{w:World}{K:Ending→World→Prop}(h:S_ops_reader_image t0 w K):Calls prog 64 #[t0] w K:=
 calls_of_wpX Tryz.func64 rfl rfl rfl rfl (Eq.mpr (S_ops_reader_image_eq t0 w K) h)
def S_ops_reader_operator_1 (t2 t4 t6:Value)(w:World)(K:Ending→World→Prop):Prop:=
 DoX prog (mFA 53 t4 4) w (pk K) fun t40 w=>
 DoX prog (mLoad 9 t40) w (pk K) fun t41 w=>
 DoX prog (mBuild 44 #[(0,t41),(1,t2)]) w (pk K) fun t43 w=>
 DoX prog (mStore 44 t6 t43) w (pk K) fun _ w=>
 RetX prog [.cell t6 44] w K
def S_ops_reader_operator_0 (t4 t33:Value)(w:World)(J2:List Value→World→Prop)(K:Ending→World→Prop):Prop:=
 IfX t33 (DoX prog (mFA 53 t4 1) w (pk K) fun t37 w=>
 DoX prog (mLoad 3 t37) w (pk K) fun t38 w=>
 CallX prog 63 #[t38,(.int .i64 3)] w (pk K) fun t39 w=>
 J2 [] w) (J2 [] w)
def S_ops_reader_operator (t0 t1 t2:Value)(w:World)(K:Ending→World→Prop):Prop:=
 DoX prog (mBox 53 t1) w (pk K) fun t4 w=>
 DoX prog (mAlloc 44) w (pk K) fun t6 w=>
 QuietX w (fun C1=>
 QDo prog C1 (mNil t0) fun t8=>
 QDo prog C1 (mFA 49 t8 2) fun t9=>
 QDo prog C1 (mLoad 23 t9) fun t10=>
 QDo prog C1 (mB .len #[23] 3 #[false] #[t10]) fun t11=>
 QDo prog C1 (mBin .lss 3 t11 (.int .i64 8191)) fun t12=>
 QDo prog C1 (mFA 53 t4 1) fun t13=>
 QDo prog C1 (mLoad 3 t13) fun t14=>
 ∀w,C1 w →
 CallX prog 37 #[t12,t14,(.int .i64 6)] w (pk K) fun t15 w=>
 DoX prog (mFA 53 t4 2) w (pk K) fun t17 w=>
 DoX prog (mLoad 3 t17) w (pk K) fun t18 w=>
 DoX prog (mNil t0) w (pk K) fun t19 w=>
 DoX prog (mFA 49 t19 1) w (pk K) fun t20 w=>
 DoX prog (mStore 3 t20 t18) w (pk K) fun _ w=>
 JoinX (fun J2=>
 DoX prog (mFA 53 t4 4) w (pk K) fun t21 w=>
 DoX prog (mLoad 9 t21) w (pk K) fun t22 w=>
 DoX prog (mEq .eql 9 (.tmp 22) (.const (.string ⟨#[66,73]⟩)) t22 (.string ⟨#[66,73]⟩)) w (pk K) fun t24 w=>
 IfX t24 (DoX prog (mB .len #[40] 3 #[false] #[t2]) w (pk K) fun t26 w=>
 DoX prog (mEq .eql 3 (.tmp 26) (.const (.int .i64 0)) t26 (.int .i64 0)) w (pk K) fun t27 w=>
 DoX prog (mFA 53 t4 1) w (pk K) fun t28 w=>
 DoX prog (mLoad 3 t28) w (pk K) fun t29 w=>
 CallX prog 37 #[t27,t29,(.int .i64 3)] w (pk K) fun t30 w=>
 CallX prog 64 #[t0] w (pk K) fun t32 w=>
 DoX prog (mStore 44 t6 t32) w (pk K) fun _ w=>
 RetX prog [.cell t6 44] w K) (JoinX (fun J3=>
 DoX prog (mEq .eql 9 (.tmp 22) (.const (.string ⟨#[73,68]⟩)) t22 (.string ⟨#[73,68]⟩)) w (pk K) fun t34 w=>
 IfX t34 (J3 [t34] w) (DoX prog (mEq .eql 9 (.tmp 22) (.const (.string ⟨#[69,73]⟩)) t22 (.string ⟨#[69,73]⟩)) w (pk K) fun t35 w=>
 IfX t35 (J3 [t35] w) (DoX prog (mEq .eql 9 (.tmp 22) (.const (.string ⟨#[82]⟩)) t22 (.string ⟨#[82]⟩)) w (pk K) fun t36 w=>
 J3 [t36] w))) (fun vs3 w=>∀_:Sg,S_ops_reader_operator_0 t4 (vs3.getD 0 undef) w J2 K))) (fun vs2 w=>∀_:Sg,S_ops_reader_operator_1 t2 t4 t6 w K))
theorem S_ops_reader_operator_eq (t0 t1 t2:Value)(w:World)(K:Ending→World→Prop):wpX prog 44 [(10,[33]),(11,[])] [] none (bodyOf Tryz.f39) (topQ prog [.cell 6 44] K) (startX [t0,t1,t2]) [] w=S_ops_reader_operator t0 t1 t2 w K:=by kernel_rfl
theorem S_ops_reader_operator_ok {t0 t1 t2:Value}{w:World}{K:Ending→World→Prop}(h:S_ops_reader_operator t0 t1 t2 w K):Calls prog 39 #[t0,t1,t2] w K:=
 calls_of_wpX Tryz.func39 rfl rfl rfl rfl (Eq.mpr (S_ops_reader_operator_eq t0 t1 t2 w K) h)
def S_ops_reader_read_p0 (x0:Deferred)(x1:Value)(K:Ending→World→Prop):=pd prog [.cell x1 26] K [x0]
def S_ops_reader_read_0 (t0 t2 t3:Value)(d1:Deferred)(w:World)(N2:List Value→World→Prop)(K:Ending→World→Prop):Prop:=
 CallX prog 36 #[t0] w (S_ops_reader_read_p0 d1 t2 K) fun t8 w=>
 DoX prog (mAlloc 53) w (S_ops_reader_read_p0 d1 t2 K) fun t4 w=>
 DoX prog (mStore 53 t4 t8) w (S_ops_reader_read_p0 d1 t2 K) fun _ w=>
 DoX prog (mFA 53 t4 0) w (S_ops_reader_read_p0 d1 t2 K) fun t23 w=>
 DoX prog (mLoad 3 t23) w (S_ops_reader_read_p0 d1 t2 K) fun t24 w=>
 DoX prog (mEq .eql 3 (.tmp 24) (.const (.int .i64 0)) t24 (.int .i64 0)) w (S_ops_reader_read_p0 d1 t2 K) fun t25 w=>
 IfX t25 (DoX prog (mB .len #[40] 3 #[false] #[t3]) w (S_ops_reader_read_p0 d1 t2 K) fun t27 w=>
 DoX prog (mEq .eql 3 (.tmp 27) (.const (.int .i64 0)) t27 (.int .i64 0)) w (S_ops_reader_read_p0 d1 t2 K) fun t28 w=>
 DoX prog (mNil t0) w (S_ops_reader_read_p0 d1 t2 K) fun t30 w=>
 DoX prog (mFA 49 t30 0) w (S_ops_reader_read_p0 d1 t2 K) fun t31 w=>
 DoX prog (mLoad 9 t31) w (S_ops_reader_read_p0 d1 t2 K) fun t32 w=>
 DoX prog (mB .len #[9] 3 #[false] #[t32]) w (S_ops_reader_read_p0 d1 t2 K) fun t33 w=>
 CallX prog 37 #[t28,t33,(.int .i64 4)] w (S_ops_reader_read_p0 d1 t2 K) fun t34 w=>
 DoX prog (mBuild 26 #[]) w (S_ops_reader_read_p0 d1 t2 K) fun t35 w=>
 DoX prog (mStore 26 t2 t35) w (S_ops_reader_read_p0 d1 t2 K) fun _ w=>
 Leave prog [.cell t2 26] K [d1] .returning w) (DoX prog (mFA 53 t4 0) w (S_ops_reader_read_p0 d1 t2 K) fun t37 w=>
 DoX prog (mLoad 3 t37) w (S_ops_reader_read_p0 d1 t2 K) fun t38 w=>
 DoX prog (mEq .eql 3 (.tmp 38) (.const (.int .i64 5)) t38 (.int .i64 5)) w (S_ops_reader_read_p0 d1 t2 K) fun t39 w=>
 GDo t39 true (fun E=>DoX prog (mFA 53 t4 4) w (S_ops_reader_read_p0 d1 t2 K) E) w fun t41 w=>
 GDo t39 true (fun E=>DoX prog (mLoad 9 t41) w (S_ops_reader_read_p0 d1 t2 K) E) w fun t42 w=>
 GDo t39 true (fun E=>CallX prog 38 #[t42] w (S_ops_reader_read_p0 d1 t2 K) E) w fun t43 w=>
 GDo t39 true (fun E=>DoX prog (mUn .not t43) w (S_ops_reader_read_p0 d1 t2 K) E) w fun t44 w=>
 DoX prog (mPick t39 t44 (.bool false)) w (S_ops_reader_read_p0 d1 t2 K) fun t45 w=>
 IfX t45 (HeldX w (fun S3 w=>
 HDo prog (fun _=>True) (mNil t0) fun t48=>
 HDo prog (fun _=>True) (mFA 49 t48 2) fun t49=>
 HDo prog S3 (mLoad 23 t49) fun t50=>
 HDo prog S3 (mLoad 53 t4) fun t52=>
 CallX prog 39 #[t0,t52,t3] w (pm1 (pm1 (pm1 (pm1 (pm1 (pm1 (pm1 (pm1 (pm1 (pm1 (S_ops_reader_read_p0 d1 t2 K))))))))))) fun t54 w=>
 S3 w∧(DoX prog (mBuildS 23 1 #[(0,t54)]) w (pm1 (pm1 (pm1 (pm1 (pm1 (pm1 (pm1 (pm1 (pm1 (pm1 (S_ops_reader_read_p0 d1 t2 K))))))))))) fun t55 w=>
 S3 w∧(DoX prog (mB .append #[23,23] 23 #[false,false] #[t50,t55]) w (pm1 (pm1 (pm1 (pm1 (pm1 (pm1 (pm1 (pm1 (pm1 (pm1 (S_ops_reader_read_p0 d1 t2 K))))))))))) fun t56 w=>
 S3 w∧(HDo prog (fun _=>True) (mNil t0) fun t57=>
 HDo prog (fun _=>True) (mFA 49 t57 2) fun t58=>
 DoX prog (mStore 23 t58 t56) w (pm1 (pm1 (pm1 (pm1 (pm1 (pm1 (pm1 (pm1 (pm1 (pm1 (S_ops_reader_read_p0 d1 t2 K))))))))))) fun _ w=>
 (AtX [d1] [d1] (N2 [(.slice none 0 0)] w))))))) (DoX prog (mLoad 53 t4) w (S_ops_reader_read_p0 d1 t2 K) fun t10 w=>
 CallX prog 40 #[t0,t10] w (S_ops_reader_read_p0 d1 t2 K) fun t11 w=>
 DoX prog (mAlloc 42) w (S_ops_reader_read_p0 d1 t2 K) fun t5 w=>
 DoX prog (mStore 42 t5 t11) w (S_ops_reader_read_p0 d1 t2 K) fun _ w=>
 DoX prog (mB .len #[40] 3 #[false] #[t3]) w (S_ops_reader_read_p0 d1 t2 K) fun t13 w=>
 DoX prog (mBin .lss 3 t13 (.int .i64 32)) w (S_ops_reader_read_p0 d1 t2 K) fun t14 w=>
 DoX prog (mFA 53 t4 1) w (S_ops_reader_read_p0 d1 t2 K) fun t15 w=>
 DoX prog (mLoad 3 t15) w (S_ops_reader_read_p0 d1 t2 K) fun t16 w=>
 CallX prog 37 #[t14,t16,(.int .i64 6)] w (S_ops_reader_read_p0 d1 t2 K) fun t17 w=>
 DoX prog (mLoad 42 t5) w (S_ops_reader_read_p0 d1 t2 K) fun t19 w=>
 DoX prog (mBuildS 40 1 #[(0,t19)]) w (S_ops_reader_read_p0 d1 t2 K) fun t20 w=>
 DoX prog (mB .append #[40,40] 40 #[false,false] #[t3,t20]) w (S_ops_reader_read_p0 d1 t2 K) fun t21 w=>
 AtX [d1] [d1] (N2 [t21] w)))
def S_ops_reader_read (t0:Value)(w:World)(K:Ending→World→Prop):Prop:=
 DoX prog (mAlloc 26) w (pk K) fun t2 w=>
 DoX prog (mFunc (.func 35) #[] #[t2]) w (pk K) fun t6 w=>
 DfrX (dfrV t6 #[]) (fun d1=>
 LoopX [(.slice none 0 0)] w (fun vs2 w N2=>∀_:Sg,S_ops_reader_read_0 t0 t2 (vs2.getD 0 undef) d1 w N2 K))
theorem S_ops_reader_read_eq (t0:Value)(w:World)(K:Ending→World→Prop):wpX prog 59 [] [(3,[3])] none (bodyOf Tryz.f16) (topQ prog [.cell 2 26] K) (startX [t0]) [] w=S_ops_reader_read t0 w K:=by kernel_rfl
theorem S_ops_reader_read_ok {t0:Value}{w:World}{K:Ending→World→Prop}(h:S_ops_reader_read t0 w K):Calls prog 16 #[t0] w K:=
 calls_of_wpX Tryz.func16 rfl rfl rfl rfl (Eq.mpr (S_ops_reader_read_eq t0 w K) h)
def S_ops_reader_read_1 (t0 r:Value)(w:World)(K:Ending→World→Prop):Prop:=
 DoX prog (mEq .eql 20 (.tmp 4) (.const .nilIface) r .nilIface) w (pk K) fun t6 w=>
 IfX t6 (K (.returned (.tuple #[])) w) (DoX prog (mTA r 20 26 true) w (pk K) fun t7 w=>
 DoX prog (mExt t7 1) w (pk K) fun t8 w=>
 DoX prog (mExt t7 0) w (pk K) fun t9 w=>
 IfX t8 (DoX prog (mAlloc 26) w (pk K) fun t2 w=>
 DoX prog (mStore 26 t2 t9) w (pk K) fun _ w=>
 DoX prog (mLoad 26 t2) w (pk K) fun t10 w=>
 DoX prog (mStore 26 t0 t10) w (pk K) fun _ w=>
 K (.returned (.tuple #[])) w) (DoX prog (mPanic r) w (pk K) fun _ w=>
 K (.returned (.tuple #[])) w))
theorem S_ops_reader_read_1_eq (t0 r:Value)(w:World)(K:Ending→World→Prop):wpX prog 11 [] [] none (sndOf (bodyOf Tryz.f35)) (topD prog [] K) (upd (startX [t0]) 4 r) [] w=S_ops_reader_read_1 t0 r w K:=by kernel_rfl
theorem S_ops_reader_read_1_dok {t0:Value}{u:FrameMode}{w:World}{R:Ending→FrameMode→World→Prop}(h:S_ops_reader_read_1 t0 (recV u) w (fun e w=>R e (recM u) w)):CallsD prog 35 #[t0] u w R:=
 callsD_recover Tryz.func35 rfl rfl rfl rfl rfl rfl rfl rfl (Eq.mpr (S_ops_reader_read_1_eq t0 (recV u) w _) h)
def S_ops_Read (t0:Value)(w:World)(K:Ending→World→Prop):Prop:=
 DoX prog (mAlloc 26) w (pk K) fun t3 w=>
 DoX prog (mBuild 49 #[(0,t0)]) w (pk K) fun t7 w=>
 DoX prog (mBox 49 t7) w (pk K) fun t8 w=>
 CallX prog 16 #[t8] w (pk K) fun t10 w=>
 DoX prog (mAlloc 26) w (pk K) fun t5 w=>
 DoX prog (mStore 26 t5 t10) w (pk K) fun _ w=>
 DoX prog (mFA 26 t5 1) w (pk K) fun t11 w=>
 DoX prog (mLoad 24 t11) w (pk K) fun t12 w=>
 DoX prog (mEq .neq 24 (.tmp 12) (.const (.int .i64 0)) t12 (.int .i64 0)) w (pk K) fun t13 w=>
 IfX t13 (QuietX w (fun C1=>
 QDo prog C1 (mLoad 26 t5) fun t14=>
 ∀w,C1 w →
 DoX prog (mStore 26 t3 t14) w (pk K) fun _ w=>
 RetX prog [.val (.slice none 0 0),.cell t3 26] w K)) (DoX prog (mNil t8) w (pk K) fun t16 w=>
 DoX prog (mFA 49 t16 2) w (pk K) fun t17 w=>
 DoX prog (mLoad 23 t17) w (pk K) fun t18 w=>
 DoX prog (mBuild 26 #[]) w (pk K) fun t19 w=>
 DoX prog (mStore 26 t3 t19) w (pk K) fun _ w=>
 RetX prog [.val t18,.cell t3 26] w K)
theorem S_ops_Read_eq (t0:Value)(w:World)(K:Ending→World→Prop):wpX prog 20 [] [] none (bodyOf Tryz.f8) (topQ prog [.tmp 2,.cell 3 26] K) (startX [t0]) [] w=S_ops_Read t0 w K:=by kernel_rfl
theorem S_ops_Read_ok {t0:Value}{w:World}{K:Ending→World→Prop}(h:S_ops_Read t0 w K):Calls prog 8 #[t0] w K:=
 calls_of_wpX Tryz.func8 rfl rfl rfl rfl (Eq.mpr (S_ops_Read_eq t0 w K) h)
def S_ops_Text_2 (t27:Value)(w:World)(N2:List Value→World→Prop)(K:Ending→World→Prop):Prop:=
 DoX prog (mBin .add 3 t27 (.int .i64 1)) w (pk K) fun t43 w=>
 N2 [t43] w
def S_ops_Text_1 (t7 t25 t26 t27:Value)(w:World)(N2:List Value→World→Prop)(K:Ending→World→Prop):Prop:=
 DoX prog (mBin .lss 3 t27 t26) w (pk K) fun t28 w=>
 IfX t28 (JoinX (fun J3=>
 DoX prog (mIA 23 t25 t27) w (pk K) fun t29 w=>
 DoX prog (mLoad 44 t29) w (pk K) fun t30 w=>
 DoX prog (mAlloc 44) w (pk K) fun t9 w=>
 DoX prog (mStore 44 t9 t30) w (pk K) fun _ w=>
 DoX prog (mLoad 44 t9) w (pk K) fun t31 w=>
 CallX prog 29 #[t31] w (pk K) fun t32 w=>
 CallX prog 28 #[t32] w (pk K) fun t33 w=>
 DoX prog (mBin .add 9 t33 (.string ⟨#[10]⟩)) w (pk K) fun t34 w=>
 CallX prog 27 #[t7,t34] w (pk K) fun t35 w=>
 DoX prog (mFA 44 t9 0) w (pk K) fun t36 w=>
 DoX prog (mLoad 9 t36) w (pk K) fun t37 w=>
 DoX prog (mEq .eql 9 (.tmp 37) (.const (.string ⟨#[66,73]⟩)) t37 (.string ⟨#[66,73]⟩)) w (pk K) fun t38 w=>
 IfX t38 (DoX prog (mFA 44 t9 2) w (pk K) fun t39 w=>
 DoX prog (mLoad 9 t39) w (pk K) fun t40 w=>
 DoX prog (mBin .add 9 t40 (.string ⟨#[10,69,73,10]⟩)) w (pk K) fun t41 w=>
 CallX prog 27 #[t7,t41] w (pk K) fun t42 w=>
 J3 [] w) (J3 [] w)) (fun vs3 w=>∀_:Sg,S_ops_Text_2 t27 w N2 K)) (CallX prog 30 #[t7] w (pk K) fun t44 w=>
 K (.returned (.tuple #[t44,(.int .i64 0)])) w)
def S_ops_Text_0 (t0 t13 t14 t15:Value)(w:World)(N1:List Value→World→Prop)(K:Ending→World→Prop):Prop:=
 DoX prog (mBin .lss 3 t15 t14) w (pk K) fun t16 w=>
 IfX t16 (DoX prog (mIA 23 t13 t15) w (pk K) fun t17 w=>
 DoX prog (mLoad 44 t17) w (pk K) fun t18 w=>
 DoX prog (mAlloc 44) w (pk K) fun t5 w=>
 DoX prog (mStore 44 t5 t18) w (pk K) fun _ w=>
 DoX prog (mLoad 44 t5) w (pk K) fun t19 w=>
 CallX prog 26 #[t19] w (pk K) fun t20 w=>
 DoX prog (mEq .neq 24 (.tmp 21) (.const (.int .i64 0)) t20 (.int .i64 0)) w (pk K) fun t22 w=>
 IfX t22 (K (.returned (.tuple #[(.string ⟨#[]⟩),t20])) w) (DoX prog (mBin .add 3 t15 (.int .i64 1)) w (pk K) fun t24 w=>
 N1 [t24] w)) (DoX prog (mAlloc 68) w (pk K) fun t7 w=>
 DoX prog (mB .len #[23] 3 #[false] #[t0]) w (pk K) fun t26 w=>
 LoopX [(.int .i64 0)] w (fun vs2 w N2=>∀_:Sg,S_ops_Text_1 t7 t0 t26 (vs2.getD 0 undef) w N2 K))
def S_ops_Text (t0:Value)(w:World)(K:Ending→World→Prop):Prop:=
 DoX prog (mB .len #[23] 3 #[false] #[t0]) w (pk K) fun t11 w=>
 DoX prog (mBin .gtr 3 t11 (.int .i64 8191)) w (pk K) fun t12 w=>
 IfX t12 (K (.returned (.tuple #[(.string ⟨#[]⟩),(.int .i64 6)])) w) (DoX prog (mB .len #[23] 3 #[false] #[t0]) w (pk K) fun t14 w=>
 LoopX [(.int .i64 0)] w (fun vs1 w N1=>∀_:Sg,S_ops_Text_0 t0 t0 t14 (vs1.getD 0 undef) w N1 K))
theorem S_ops_Text_eq (t0:Value)(w:World)(K:Ending→World→Prop):wpX prog 45 [(17,[])] [(4,[15]),(12,[27])] none (bodyOf Tryz.f12) (topQ prog [.tmp 2,.tmp 3] K) (startX [t0]) [] w=S_ops_Text t0 w K:=by kernel_rfl
theorem S_ops_Text_ok {t0:Value}{w:World}{K:Ending→World→Prop}(h:S_ops_Text t0 w K):Calls prog 12 #[t0] w K:=
 calls_of_wpX Tryz.func12 rfl rfl rfl rfl (Eq.mpr (S_ops_Text_eq t0 w K) h)
def S_ops_Nums_0 (t4 t10 t11 t12:Value)(w:World)(N1:List Value→World→Prop)(K:Ending→World→Prop):Prop:=
 DoX prog (mBin .lss 3 t12 t11) w (pk K) fun t13 w=>
 IfX t13 (DoX prog (mIA 40 t10 t12) w (pk K) fun t14 w=>
 DoX prog (mLoad 42 t14) w (pk K) fun t15 w=>
 DoX prog (mAlloc 42) w (pk K) fun t6 w=>
 DoX prog (mStore 42 t6 t15) w (pk K) fun _ w=>
 DoX prog (mFA 42 t6 0) w (pk K) fun t16 w=>
 DoX prog (mLoad 3 t16) w (pk K) fun t17 w=>
 DoX prog (mEq .neq 3 (.tmp 17) (.const (.int .i64 2)) t17 (.int .i64 2)) w (pk K) fun t18 w=>
 GDo t18 true (fun E=>DoX prog (mFA 42 t6 0) w (pk K) E) w fun t20 w=>
 GDo t18 true (fun E=>DoX prog (mLoad 3 t20) w (pk K) E) w fun t21 w=>
 GDo t18 true (fun E=>DoX prog (mEq .neq 3 (.tmp 21) (.const (.int .i64 3)) t21 (.int .i64 3)) w (pk K) E) w fun t22 w=>
 DoX prog (mPick t18 t22 (.bool false)) w (pk K) fun t23 w=>
 IfX t23 (K (.returned (.tuple #[(.slice none 0 0),(.int .i64 10)])) w) (DoX prog (mLoad 42 t6) w (pk K) fun t25 w=>
 CallX prog 31 #[t25] w (pk K) fun t26 w=>
 DoX prog (mExt t26 0) w (pk K) fun t27 w=>
 DoX prog (mExt t26 1) w (pk K) fun t28 w=>
 DoX prog (mUn .not t28) w (pk K) fun t30 w=>
 IfX t30 (K (.returned (.tuple #[(.slice none 0 0),(.int .i64 2)])) w) (DoX prog (mBuildS 36 1 #[(0,t27)]) w (pk K) fun t33 w=>
 DoX prog (mB .append #[36,36] 36 #[false,false] #[t4,t33]) w (pk K) fun t34 w=>
 DoX prog (mBin .add 3 t12 (.int .i64 1)) w (pk K) fun t35 w=>
 N1 [t34,t35] w))) (K (.returned (.tuple #[t4,(.int .i64 0)])) w)
def S_ops_Nums (t0:Value)(w:World)(K:Ending→World→Prop):Prop:=
 DoX prog (mBox 44 t0) w (pk K) fun t1 w=>
 DoX prog (mFA 44 t1 1) w (pk K) fun t9 w=>
 DoX prog (mLoad 40 t9) w (pk K) fun t10 w=>
 DoX prog (mB .len #[40] 3 #[false] #[t10]) w (pk K) fun t11 w=>
 LoopX [(.slice none 0 0),(.int .i64 0)] w (fun vs1 w N1=>∀_:Sg,S_ops_Nums_0 (vs1.getD 0 undef) t10 t11 (vs1.getD 1 undef) w N1 K)
theorem S_ops_Nums_eq (t0:Value)(w:World)(K:Ending→World→Prop):wpX prog 37 [] [(3,[4,12])] none (bodyOf Tryz.f13) (topQ prog [.tmp 2,.tmp 3] K) (startX [t0]) [] w=S_ops_Nums t0 w K:=by kernel_rfl
theorem S_ops_Nums_ok {t0:Value}{w:World}{K:Ending→World→Prop}(h:S_ops_Nums t0 w K):Calls prog 13 #[t0] w K:=
 calls_of_wpX Tryz.func13 rfl rfl rfl rfl (Eq.mpr (S_ops_Nums_eq t0 w K) h)
def S_ops_Takes_0 (t0 t21 t22:Value)(w:World)(N1:List Value→World→Prop)(K:Ending→World→Prop):Prop:=
 DoX prog (mBin .lss 3 t22 (.int .i64 14)) w (pk K) fun t23 w=>
 IfX t23 (DoX prog (mIx 80 t21 t22) w (pk K) fun t24 w=>
 DoX prog (mAlloc 79) w (pk K) fun t5 w=>
 DoX prog (mStore 79 t5 t24) w (pk K) fun _ w=>
 DoX prog (mFA 79 t5 1) w (pk K) fun t25 w=>
 DoX prog (mLoad 9 t25) w (pk K) fun t26 w=>
 CallX prog 33 #[t26] w (pk K) fun t27 w=>
 CallX prog 32 #[t27,t0] w (pk K) fun t29 w=>
 IfX t29 (DoX prog (mFA 79 t5 0) w (pk K) fun t30 w=>
 DoX prog (mLoad 9 t30) w (pk K) fun t31 w=>
 K (.returned t31) w) (DoX prog (mBin .add 3 t22 (.int .i64 1)) w (pk K) fun t32 w=>
 N1 [t32] w)) (K (.returned (.string ⟨#[63]⟩)) w)
def S_ops_Takes (t0:Value)(w:World)(K:Ending→World→Prop):Prop:=
 DoX prog (mBuild 79 #[(0,(.string ⟨#[]⟩)),(1,(.string ⟨#[98,32,66,32,98,42,32,66,42,32,66,84,32,69,84,32,69,77,67,32,66,88,32,69,88,32,102,32,70,32,102,42,32,104,32,110,32,113,32,81,32,115,32,83,32,84,42,32,87,32,87,42]⟩))]) w (pk K) fun t6 w=>
 DoX prog (mBuild 79 #[(0,(.string ⟨#[110]⟩)),(1,(.string ⟨#[103,32,71,32,105,32,106,32,74,32,77,32,119,32,84,99,32,84,76,32,84,114,32,84,115,32,84,119,32,84,122]⟩))]) w (pk K) fun t7 w=>
 DoX prog (mBuild 79 #[(0,(.string ⟨#[110,110]⟩)),(1,(.string ⟨#[100,48,32,108,32,109,32,84,100,32,84,68]⟩))]) w (pk K) fun t8 w=>
 DoX prog (mBuild 79 #[(0,(.string ⟨#[110,110,110]⟩)),(1,(.string ⟨#[114,103,32,82,71]⟩))]) w (pk K) fun t9 w=>
 DoX prog (mBuild 79 #[(0,(.string ⟨#[110,110,110,110]⟩)),(1,(.string ⟨#[107,32,75,32,114,101,32,118,32,121]⟩))]) w (pk K) fun t10 w=>
 DoX prog (mBuild 79 #[(0,(.string ⟨#[110,110,110,110,110,110]⟩)),(1,(.string ⟨#[99,32,99,109,32,100,49,32,84,109]⟩))]) w (pk K) fun t11 w=>
 DoX prog (mBuild 79 #[(0,(.string ⟨#[78]⟩)),(1,(.string ⟨#[66,77,67,32,99,115,32,67,83,32,68,111,32,103,115,32,77,80,32,114,105,32,115,104]⟩))]) w (pk K) fun t12 w=>
 DoX prog (mBuild 79 #[(0,(.string ⟨#[78,110]⟩)),(1,(.string ⟨#[84,102]⟩))]) w (pk K) fun t13 w=>
 DoX prog (mBuild 79 #[(0,(.string ⟨#[78,42]⟩)),(1,(.string ⟨#[66,68,67,32,68,80]⟩))]) w (pk K) fun t14 w=>
 DoX prog (mBuild 79 #[(0,(.string ⟨#[115]⟩)),(1,(.string ⟨#[84,106,32,39]⟩))]) w (pk K) fun t15 w=>
 DoX prog (mBuild 79 #[(0,(.string ⟨#[110,110,115]⟩)),(1,(.string ⟨#[34]⟩))]) w (pk K) fun t16 w=>
 DoX prog (mBuild 79 #[(0,(.string ⟨#[97]⟩)),(1,(.string ⟨#[84,74]⟩))]) w (pk K) fun t17 w=>
 DoX prog (mBuild 79 #[(0,(.string ⟨#[97,110]⟩)),(1,(.string ⟨#[100]⟩))]) w (pk K) fun t18 w=>
 DoX prog (mBuild 79 #[(0,(.string ⟨#[100]⟩)),(1,(.string ⟨#[66,73]⟩))]) w (pk K) fun t19 w=>
 DoX prog (mBuild 80 #[(0,t6),(1,t7),(2,t8),(3,t9),(4,t10),(5,t11),(6,t12),(7,t13),(8,t14),(9,t15),(10,t16),(11,t17),(12,t18),(13,t19)]) w (pk K) fun t20 w=>
 DoX prog (mAlloc 80) w (pk K) fun t3 w=>
 DoX prog (mStore 80 t3 t20) w (pk K) fun _ w=>
 DoX prog (mLoad 80 t3) w (pk K) fun t21 w=>
 LoopX [(.int .i64 0)] w (fun vs1 w N1=>∀_:Sg,S_ops_Takes_0 t0 t21 (vs1.getD 0 undef) w N1 K)
theorem S_ops_Takes_eq (t0:Value)(w:World)(K:Ending→World→Prop):wpX prog 33 [] [(3,[22])] none (bodyOf Tryz.f14) (topQ prog [.tmp 2] K) (startX [t0]) [] w=S_ops_Takes t0 w K:=by kernel_rfl
theorem S_ops_Takes_ok {t0:Value}{w:World}{K:Ending→World→Prop}(h:S_ops_Takes t0 w K):Calls prog 14 #[t0] w K:=
 calls_of_wpX Tryz.func14 rfl rfl rfl rfl (Eq.mpr (S_ops_Takes_eq t0 w K) h)
def S_ops_Check_0 (t1 t20:Value)(w:World)(N1:List Value→World→Prop)(K:Ending→World→Prop):Prop:=
 DoX prog (mNext t20 true 0) w (pk K) fun t21 w=>
 DoX prog (mExt t21 0) w (pk K) fun t22 w=>
 IfX t22 (DoX prog (mExt t21 1) w (pk K) fun t23 w=>
 DoX prog (mExt t21 2) w (pk K) fun t24 w=>
 DoX prog (mFA 44 t1 1) w (pk K) fun t26 w=>
 DoX prog (mLoad 40 t26) w (pk K) fun t27 w=>
 DoX prog (mIA 40 t27 t23) w (pk K) fun t29 w=>
 DoX prog (mFA 42 t29 0) w (pk K) fun t30 w=>
 DoX prog (mLoad 3 t30) w (pk K) fun t31 w=>
 CallX prog 34 #[t24,t31] w (pk K) fun t32 w=>
 DoX prog (mUn .not t32) w (pk K) fun t33 w=>
 IfX t33 (K (.returned (.int .i64 28)) w) (N1 [] w)) (DoX prog (mFA 44 t1 2) w (pk K) fun t34 w=>
 DoX prog (mLoad 9 t34) w (pk K) fun t35 w=>
 DoX prog (mEq .neq 9 (.tmp 35) (.const (.string ⟨#[]⟩)) t35 (.string ⟨#[]⟩)) w (pk K) fun t36 w=>
 GDo t36 true (fun E=>DoX prog (mFA 44 t1 0) w (pk K) E) w fun t38 w=>
 GDo t36 true (fun E=>DoX prog (mLoad 9 t38) w (pk K) E) w fun t39 w=>
 GDo t36 true (fun E=>DoX prog (mEq .neq 9 (.tmp 39) (.const (.string ⟨#[66,73]⟩)) t39 (.string ⟨#[66,73]⟩)) w (pk K) E) w fun t40 w=>
 DoX prog (mPick t36 t40 (.bool false)) w (pk K) fun t41 w=>
 IfX t41 (K (.returned (.int .i64 3)) w) (K (.returned (.int .i64 0)) w))
def S_ops_Check (t0:Value)(w:World)(K:Ending→World→Prop):Prop:=
 DoX prog (mBox 44 t0) w (pk K) fun t1 w=>
 DoX prog (mFA 44 t1 0) w (pk K) fun t6 w=>
 DoX prog (mLoad 9 t6) w (pk K) fun t7 w=>
 CallX prog 14 #[t7] w (pk K) fun t8 w=>
 DoX prog (mEq .eql 9 (.tmp 9) (.const (.string ⟨#[63]⟩)) t8 (.string ⟨#[63]⟩)) w (pk K) fun t10 w=>
 GDo t10 false (fun E=>E t8 w) w fun t12 w=>
 GDo t10 false (fun E=>DoX prog (mB .len #[9] 3 #[false] #[t12]) w (pk K) E) w fun t13 w=>
 GDo t10 false (fun E=>DoX prog (mFA 44 t1 1) w (pk K) E) w fun t14 w=>
 GDo t10 false (fun E=>DoX prog (mLoad 40 t14) w (pk K) E) w fun t15 w=>
 GDo t10 false (fun E=>DoX prog (mB .len #[40] 3 #[false] #[t15]) w (pk K) E) w fun t16 w=>
 GDo t10 false (fun E=>DoX prog (mEq .neq 3 (.tmp 13) (.tmp 16) t13 t16) w (pk K) E) w fun t17 w=>
 DoX prog (mPick t10 (.bool true) t17) w (pk K) fun t18 w=>
 IfX t18 (K (.returned (.int .i64 28)) w) (DoX prog (mRange 9 t8) w (pk K) fun t20 w=>
 LoopX [] w (fun vs1 w N1=>∀_:Sg,S_ops_Check_0 t1 t20 w N1 K))
theorem S_ops_Check_eq (t0:Value)(w:World)(K:Ending→World→Prop):wpX prog 42 [] [(5,[])] none (bodyOf Tryz.f15) (topQ prog [.tmp 2] K) (startX [t0]) [] w=S_ops_Check t0 w K:=by kernel_rfl
theorem S_ops_Check_ok {t0:Value}{w:World}{K:Ending→World→Prop}(h:S_ops_Check t0 w K):Calls prog 15 #[t0] w K:=
 calls_of_wpX Tryz.func15 rfl rfl rfl rfl (Eq.mpr (S_ops_Check_eq t0 w K) h)
end
section
open Eng
def S_foliantref43_Same_0 (t0 t1 t5:Value)(w:World)(N1:List Value→World→Prop)(K:Ending→World→Prop):Prop:=
 DoX prog (mB .len #[23] 3 #[false] #[t0]) w (pk K) fun t13 w=>
 DoX prog (mBin .lss 3 t5 t13) w (pk K) fun t14 w=>
 IfX t14 (QuietX w (fun C2=>
 QDo prog C2 (mIA 23 t0 t5) fun t19=>
 QDo prog C2 (mFA 44 t19 0) fun t20=>
 QDo prog C2 (mLoad 9 t20) fun t21=>
 QDo prog C2 (mIA 23 t1 t5) fun t24=>
 QDo prog C2 (mFA 44 t24 0) fun t25=>
 QDo prog C2 (mLoad 9 t25) fun t26=>
 QDo prog C2 (mEq .neq 9 (.tmp 21) (.tmp 26) t21 t26) fun t27=>
 GQ t27 false (fun E=>E t0) fun t29=>
 GQ t27 false (fun E=>E t5) fun t30=>
 GQ t27 false (fun E=>QDo prog C2 (mIA 23 t29 t30) E) fun t31=>
 GQ t27 false (fun E=>QDo prog C2 (mFA 44 t31 2) E) fun t32=>
 GQ t27 false (fun E=>QDo prog C2 (mLoad 9 t32) E) fun t33=>
 GQ t27 false (fun E=>E t1) fun t34=>
 GQ t27 false (fun E=>E t5) fun t35=>
 GQ t27 false (fun E=>QDo prog C2 (mIA 23 t34 t35) E) fun t36=>
 GQ t27 false (fun E=>QDo prog C2 (mFA 44 t36 2) E) fun t37=>
 GQ t27 false (fun E=>QDo prog C2 (mLoad 9 t37) E) fun t38=>
 GQ t27 false (fun E=>QDo prog C2 (mEq .neq 9 (.tmp 33) (.tmp 38) t33 t38) E) fun t39=>
 QDo prog C2 (mPick t27 (.bool true) t39) fun t40=>
 GQ t40 false (fun E=>E t0) fun t42=>
 GQ t40 false (fun E=>E t5) fun t43=>
 GQ t40 false (fun E=>QDo prog C2 (mIA 23 t42 t43) E) fun t44=>
 GQ t40 false (fun E=>QDo prog C2 (mFA 44 t44 1) E) fun t45=>
 GQ t40 false (fun E=>QDo prog C2 (mLoad 40 t45) E) fun t46=>
 GQ t40 false (fun E=>E t1) fun t47=>
 GQ t40 false (fun E=>E t5) fun t48=>
 GQ t40 false (fun E=>QDo prog C2 (mIA 23 t47 t48) E) fun t49=>
 GQ t40 false (fun E=>QDo prog C2 (mFA 44 t49 1) E) fun t50=>
 GQ t40 false (fun E=>QDo prog C2 (mLoad 40 t50) E) fun t51=>
 GQ t40 false (fun E=>QCall prog C2 24 #[t46,t51] E) fun t52=>
 GQ t40 false (fun E=>QDo prog C2 (mUn .not t52) E) fun t53=>
 QDo prog C2 (mPick t40 (.bool true) t53) fun t54=>
 ∀w,C2 w →
 IfX t54 (K (.returned (.bool false)) w) (DoX prog (mBin .add 3 t5 (.int .i64 1)) w (pk K) fun t16 w=>
 N1 [t16] w))) (K (.returned (.bool true)) w)
def S_foliantref43_Same (t0 t1:Value)(w:World)(K:Ending→World→Prop):Prop:=
 DoX prog (mB .len #[23] 3 #[false] #[t0]) w (pk K) fun t7 w=>
 DoX prog (mB .len #[23] 3 #[false] #[t1]) w (pk K) fun t9 w=>
 DoX prog (mEq .neq 3 (.tmp 7) (.tmp 9) t7 t9) w (pk K) fun t10 w=>
 IfX t10 (K (.returned (.bool false)) w) (LoopX [(.int .i64 0)] w (fun vs1 w N1=>∀_:Sg,S_foliantref43_Same_0 t0 t1 (vs1.getD 0 undef) w N1 K))
theorem S_foliantref43_Same_eq (t0 t1:Value)(w:World)(K:Ending→World→Prop):wpX prog 55 [] [(4,[5])] none (bodyOf Tryz.f10) (topQ prog [.tmp 4] K) (startX [t0,t1]) [] w=S_foliantref43_Same t0 t1 w K:=by kernel_rfl
theorem S_foliantref43_Same_ok {t0 t1:Value}{w:World}{K:Ending→World→Prop}(h:S_foliantref43_Same t0 t1 w K):Calls prog 10 #[t0,t1] w K:=
 calls_of_wpX Tryz.func10 rfl rfl rfl rfl (Eq.mpr (S_foliantref43_Same_eq t0 t1 w K) h)
end
section
open Eng
def S_value_Number_0 (t4:Value)(w:World)(K:Ending→World→Prop):Prop:=
 CallX prog 57 #[t4,(.int .i64 (-1073741824)),(.int .i64 1073741824)] w (pk K) fun t19 w=>
 DoX prog (mUn .not t19) w (pk K) fun t20 w=>
 IfX t20 (K (.returned (.tuple #[(.int .i64 0),(.bool false)])) w) (K (.returned (.tuple #[t4,(.bool true)])) w)
def S_value_Number (t0:Value)(w:World)(K:Ending→World→Prop):Prop:=
 DoX prog (mBox 42 t0) w (pk K) fun t1 w=>
 DoX prog (mFA 42 t1 1) w (pk K) fun t5 w=>
 DoX prog (mLoad 2 t5) w (pk K) fun t6 w=>
 JoinX (fun J1=>
 DoX prog (mFA 42 t1 0) w (pk K) fun t7 w=>
 DoX prog (mLoad 3 t7) w (pk K) fun t8 w=>
 DoX prog (mEq .eql 3 (.tmp 8) (.const (.int .i64 2)) t8 (.int .i64 2)) w (pk K) fun t10 w=>
 IfX t10 (CallX prog 57 #[t6,(.int .i64 (-107374)),(.int .i64 107374)] w (pk K) fun t12 w=>
 DoX prog (mUn .not t12) w (pk K) fun t13 w=>
 IfX t13 (K (.returned (.tuple #[(.int .i64 0),(.bool false)])) w) (DoX prog (mBin .mul 2 t6 (.int .i64 10000)) w (pk K) fun t15 w=>
 J1 [t15] w)) (DoX prog (mEq .eql 3 (.tmp 8) (.const (.int .i64 3)) t8 (.int .i64 3)) w (pk K) fun t17 w=>
 IfX t17 (J1 [t6] w) (K (.returned (.tuple #[(.int .i64 0),(.bool false)])) w))) (fun vs1 w=>∀_:Sg,S_value_Number_0 (vs1.getD 0 undef) w K)
theorem S_value_Number_eq (t0:Value)(w:World)(K:Ending→World→Prop):wpX prog 22 [(9,[4])] [] none (bodyOf Tryz.f31) (topQ prog [.tmp 2,.tmp 3] K) (startX [t0]) [] w=S_value_Number t0 w K:=by kernel_rfl
theorem S_value_Number_ok {t0:Value}{w:World}{K:Ending→World→Prop}(h:S_value_Number t0 w K):Calls prog 31 #[t0] w K:=
 calls_of_wpX Tryz.func31 rfl rfl rfl rfl (Eq.mpr (S_value_Number_eq t0 w K) h)
def S_value_Depth_0 (t3 t7 t8 t9:Value)(w:World)(N1:List Value→World→Prop)(K:Ending→World→Prop):Prop:=
 DoX prog (mBin .lss 3 t9 t8) w (pk K) fun t10 w=>
 IfX t10 (DoX prog (mIA 40 t7 t9) w (pk K) fun t11 w=>
 DoX prog (mLoad 42 t11) w (pk K) fun t12 w=>
 DoX prog (mAlloc 42) w (pk K) fun t5 w=>
 DoX prog (mStore 42 t5 t12) w (pk K) fun _ w=>
 DoX prog (mLoad 42 t5) w (pk K) fun t14 w=>
 CallX prog 147 #[t14] w (pk K) fun t15 w=>
 DoX prog (mB .max #[3,3] 3 #[false,false] #[t3,t15]) w (pk K) fun t16 w=>
 DoX prog (mBin .add 3 t9 (.int .i64 1)) w (pk K) fun t17 w=>
 N1 [t16,t17] w) (DoX prog (mBin .add 3 t3 (.int .i64 1)) w (pk K) fun t19 w=>
 K (.returned t19) w)
def S_value_Depth (t0:Value)(w:World)(K:Ending→World→Prop):Prop:=
 DoX prog (mBox 42 t0) w (pk K) fun t1 w=>
 DoX prog (mFA 42 t1 5) w (pk K) fun t6 w=>
 DoX prog (mLoad 40 t6) w (pk K) fun t7 w=>
 DoX prog (mB .len #[40] 3 #[false] #[t7]) w (pk K) fun t8 w=>
 LoopX [(.int .i64 0),(.int .i64 0)] w (fun vs1 w N1=>∀_:Sg,S_value_Depth_0 (vs1.getD 0 undef) t7 t8 (vs1.getD 1 undef) w N1 K)
theorem S_value_Depth_eq (t0:Value)(w:World)(K:Ending→World→Prop):wpX prog 20 [] [(3,[3,9])] none (bodyOf Tryz.f147) (topQ prog [.tmp 2] K) (startX [t0]) [] w=S_value_Depth t0 w K:=by kernel_rfl
theorem S_value_Depth_ok {t0:Value}{w:World}{K:Ending→World→Prop}(h:S_value_Depth t0 w K):Calls prog 147 #[t0] w K:=
 calls_of_wpX Tryz.func147 rfl rfl rfl rfl (Eq.mpr (S_value_Depth_eq t0 w K) h)
def S_slices_ContainsFunc_foliant_api_Object_foliant_api_Object (t0 t1:Value)(w:World)(K:Ending→World→Prop):Prop:=
 CallX prog 128 #[t0,t1] w (pk K) fun t7 w=>
 DoX prog (mBin .geq 3 t7 (.int .i64 0)) w (pk K) fun t8 w=>
 K (.returned t8) w
theorem S_slices_ContainsFunc_foliant_api_Object_foliant_api_Object_eq (t0 t1:Value)(w:World)(K:Ending→World→Prop):wpX prog 9 [] [] none (bodyOf Tryz.f88) (topQ prog [.tmp 4] K) (startX [t0,t1]) [] w=S_slices_ContainsFunc_foliant_api_Object_foliant_api_Object t0 t1 w K:=by kernel_rfl
theorem S_slices_ContainsFunc_foliant_api_Object_foliant_api_Object_ok {t0 t1:Value}{w:World}{K:Ending→World→Prop}(h:S_slices_ContainsFunc_foliant_api_Object_foliant_api_Object t0 t1 w K):Calls prog 88 #[t0,t1] w K:=
 calls_of_wpX Tryz.func88 rfl rfl rfl rfl (Eq.mpr (S_slices_ContainsFunc_foliant_api_Object_foliant_api_Object_eq t0 t1 w K) h)
def S_slices_IndexFunc_foliant_api_Object_foliant_api_Object_0 (t0 t1 t7 t8:Value)(w:World)(N1:List Value→World→Prop)(K:Ending→World→Prop):Prop:=
 DoX prog (mBin .lss 3 t8 t7) w (pk K) fun t9 w=>
 IfX t9 (DoX prog (mIA 40 t0 t8) w (pk K) fun t14 w=>
 DoX prog (mLoad 42 t14) w (pk K) fun t15 w=>
 DoX prog (mCallV t1 #[t15]) w (pk K) fun t16 w=>
 IfX t16 (K (.returned t8) w) (DoX prog (mBin .add 3 t8 (.int .i64 1)) w (pk K) fun t18 w=>
 N1 [t18] w)) (K (.returned (.int .i64 (-1))) w)
def S_slices_IndexFunc_foliant_api_Object_foliant_api_Object (t0 t1:Value)(w:World)(K:Ending→World→Prop):Prop:=
 DoX prog (mB .len #[40] 3 #[false] #[t0]) w (pk K) fun t7 w=>
 LoopX [(.int .i64 0)] w (fun vs1 w N1=>∀_:Sg,S_slices_IndexFunc_foliant_api_Object_foliant_api_Object_0 t0 t1 t7 (vs1.getD 0 undef) w N1 K)
theorem S_slices_IndexFunc_foliant_api_Object_foliant_api_Object_eq (t0 t1:Value)(w:World)(K:Ending→World→Prop):wpX prog 19 [] [(2,[8])] none (bodyOf Tryz.f128) (topQ prog [.tmp 4] K) (startX [t0,t1]) [] w=S_slices_IndexFunc_foliant_api_Object_foliant_api_Object t0 t1 w K:=by kernel_rfl
theorem S_slices_IndexFunc_foliant_api_Object_foliant_api_Object_ok {t0 t1:Value}{w:World}{K:Ending→World→Prop}(h:S_slices_IndexFunc_foliant_api_Object_foliant_api_Object t0 t1 w K):Calls prog 128 #[t0,t1] w K:=
 calls_of_wpX Tryz.func128 rfl rfl rfl rfl (Eq.mpr (S_slices_IndexFunc_foliant_api_Object_foliant_api_Object_eq t0 t1 w K) h)
end
section
open Eng Go.RowKit
theorem opconst_ret (s:List UInt8)(w:World):Ret prog 38 #[.string ⟨s.toArray⟩] w (fun v w'=>v=.bool (Cs.constant s)∧w=w'):=by
 refine ret_of fun K hK=>S_ops_constant_ok ?_;unfold S_ops_constant;have fin:∀{q:Bool},q=Cs.constant s→K (.returned (.bool q)) w:=fun e=>hK _ _ ⟨by rw[e],rfl⟩;by_cases h1:s=[116,114,117,101]
 ·simp only[rs,decide_eq_true h1,g_un];exact fin (by simp[Cs.constant,Ps.tru,h1])
 by_cases h2:s=[102,97,108,115,101]
 ·simp only[rs,decide_eq_false h1,decide_eq_true h2,g_un];exact fin (by simp[Cs.constant,Ps.fal,h2])
 simp only[rs,decide_eq_false h1,decide_eq_false h2,g_un];exact fin (by unfold Cs.constant;rw[decide_eq_false (show ¬s=Ps.tru from h1),decide_eq_false (show ¬s=Ps.fal from h2)];rfl)
namespace Cs
theorem refersL_any:∀l:List Ob,refersL l=l.any refers
|[]=>by rw[refersL];rfl
|o::l=>by rw[refersL,List.any_cons,refersL_any l]
theorem any_idx:∀l:List Ob,l.any refers=decide (l.findIdx refers < l.length)
|[]=>rfl
|o::l=>by
  rw[List.any_cons,List.findIdx_cons,any_idx l];cases h:refers o with
 |true=>simp
 |false=>simp
end Cs
theorem oprefers_plain:plainB prog 51=true:=by kernel_rfl
theorem findIdx_atO {p:Ob→Bool}{l:List Ob}{i:Nat}(hi:i < l.length)(h1:∀m (h:m < l.length),m < i→p l[m]=false)(h2:p l[i]=true):l.findIdx p=i:=by
 have hle:l.findIdx p≤i:=by
  rcases Nat.lt_or_ge i (l.findIdx p) with h|h
  ·have:=List.not_of_lt_findIdx h;rw[h2] at this;simp at this
  ·exact h
 rcases Nat.lt_or_ge (l.findIdx p) i with h|h
 ·have hlt:l.findIdx p < l.length:=by omega
  have:=h1 _ hlt h;have hp:=List.findIdx_getElem (w:=hlt);rw[this] at hp;cases hp
 ·omega
theorem ixfO_ret (l:List Ob)(vc:Value)(cs:List Value)(w:World)(hl:l.length≤10000000000)(hs:SlA (InW w) w vc 6 l.length cs)(hall:OVs (InW w) w cs l)
  (hp:∀(o:Ob) (v:Value) (W:World),o∈l→OV (InW W) W v o→Ret prog 51 #[v] W (fun v w'=>v=.bool (Cs.refers o)∧Below W.heap.size W w')) :
  Ret prog 128 #[vc,.func (.func 51) #[] #[]] w (fun v w'=>v=.int .i64 (if l.findIdx Cs.refers < l.length then (l.findIdx Cs.refers:Int) else -1)∧Below w.heap.size w w'):=by
 refine ret_of fun K hK=>S_slices_IndexFunc_foliant_api_Object_foliant_api_Object_ok ?_;unfold S_slices_IndexFunc_foliant_api_Object_foliant_api_Object;rw[sl_len Tryz.underlying40 hs.1];refine loop (fun vs W=>∃i:Nat,vs=[.int .i64 i]∧i≤l.length∧(∀m (h:m < l.length),m < i→Cs.refers l[m]=false)∧Own w W []) (fun vs _=>l.length - n0 vs) ⟨0,rfl,by omega,fun m _ h=>by omega,Own.start w⟩ ?_;rintro vs w1 ⟨i,rfl,hi,hlo,ho⟩ _;simp only[S_slices_IndexFunc_foliant_api_Object_foliant_api_Object_0,gd,rs];by_cases hlt:(i:Int) < (l.length:Int)
 ·have hi':i < l.length:=by omega
  simp only[hlt,decide_true,i_t];have hk:Kept (InW w) w w1:=OwnS.keptIn ho;refine ob_ia (hs.kept hk).1 (OVs.kept hk _ _ hall) hi' fun v hv=>?_;have hv1:OV (InW w1) w1 v l[i]:=OV.mono (fun _ hb=>Nat.lt_of_lt_of_le hb ho.size) _ v hv;refine c_val oprefers_plain (c_ret (hp l[i] v w1 (List.getElem_mem hi') hv1) ?_);rintro _ w2 ⟨rfl,hb⟩;have ho:=ho.grow hb;cases hc:Cs.refers l[i] with
 |true=>
   simp only[i_t];have:=findIdx_atO hi' hlo hc;exact hK _ _ ⟨by rw[this,if_pos hi'],ho.done⟩
 |false=>
   simp only[i_f];rw[wrap64_id (by omega) (by omega)];refine nextX ⟨i+1,rfl,by omega,fun m hm hmi=>?_,ho⟩ (by simp[n0,RowKit.intOf];omega);rcases Nat.lt_or_ge m i with h|h
   ·exact hlo m hm h
   ·have:m=i:=by omega
    subst this;exact hc
 ·simp only[hlt,decide_false,i_f];have hnot:¬l.findIdx Cs.refers < l.length:=by
   intro h;have:=hlo _ h (by omega);have hp:=List.findIdx_getElem (w:=h);rw[this] at hp;cases hp
  exact hK _ _ ⟨by rw[if_neg hnot],ho.done⟩
theorem oprefers_ret (n:Nat):∀(o:Ob) (v:Value) (w:World),o.wt≤n→o.wt≤10000000000→OV (InW w) w v o→Ret prog 51 #[v] w (fun v w'=>v=.bool (Cs.refers o)∧Below w.heap.size w w'):=by
 induction n with
|zero=>intro o v w h;have:=o.wt_pos;omega
|succ n ih=>
 intro o v w hn hb hov;obtain⟨vk,vc,cs,rfl,ha⟩:=hov.open;refine ret_of fun K hK=>S_ops_refers_ok ?_;unfold S_ops_refers;refine o_obb o ha.keys.one ha.kids.one (Own.start w) fun b w1 ho=>?_;rw[fa_o0,ob_k ho 0 rfl];simp only[rs];by_cases h8:o.k=8
 ·simp only[decide_eq_true h8,rs,g_un];exact hK _ _ ⟨by rw[Cs.refers_eq,decide_eq_true h8];rfl,ho.done⟩
 simp only[decide_eq_false h8,rs,fa_o5,ob_kids ho 0 rfl];have ha1:ObAt (InW w1) w1 o vk vc cs:=(ha.later (Own.start w) ho);have hcl:=kids_len (o:=o);refine c_told (w:=w1) (x:=.bool (Cs.refersL o.kids)) (ret_of fun K hK=>S_slices_ContainsFunc_foliant_api_Object_foliant_api_Object_ok ?_) rfl ho fun w2 ho=>?_
 ·unfold S_slices_ContainsFunc_foliant_api_Object_foliant_api_Object;refine c_ret (ixfO_ret o.kids vc cs w1 (by omega) ha1.kids ha1.all fun x v W hx hv=>ih x v W ?_ ?_ hv) ?_
  ·obtain⟨i,hi,rfl⟩:=List.getElem_of_mem hx;have:=kid_wt hi;omega
  ·obtain⟨i,hi,rfl⟩:=List.getElem_of_mem hx;have:=kid_wt hi;omega
  ·rintro _ w2 ⟨rfl,hb⟩;simp only[rs];refine hK _ _ ⟨?_,hb⟩;rw[Cs.refersL_any,Cs.any_idx];by_cases hf:o.kids.findIdx Cs.refers < o.kids.length
   ·rw[if_pos hf,decide_eq_true hf,decide_eq_true (by omega)]
   ·rw[if_neg hf,decide_eq_false hf,decide_eq_false (by omega)]
 ·try simp only[rs]
  exact hK _ _ ⟨by rw[Cs.refers_eq,decide_eq_false h8,Bool.false_or],ho.done⟩
theorem b_max64 {T U:TypeId}{cb:Array Bool}{a b:Int}{P:Program}{w:World}{PK:PKT}{K:VWP}:DoX P (mB .max #[T,T] U cb #[.int .i64 a,.int .i64 b]) w PK K=K (.int .i64 (max a b)) w:=by
 refine do_eq ?_;simp[mB,builtin,Builtin.max_,Builtin.max2];rw[Int.max_def];split<;>split<;>omega
namespace Cs
theorem depthL_snoc:∀(l:List Ob) (o:Ob),depthL (l++[o])=max (depthL l) (depth o)
|[],o=>by simp[depthL]
|a::l,o=>by rw[List.cons_append,depthL,depthL_snoc l o,depthL];omega
theorem depthL_take:∀(l:List Ob) (i:Nat),depthL (l.take i)≤depthL l
|[],i=>by simp
|a::l,0=>by simp[depthL]
|a::l,i+1=>by
  have:=depthL_take l i;rw[List.take_succ_cons,depthL,depthL];omega
 mutual
theorem depth_wt:∀o:Ob,depth o≤o.wt
|.mk k n g s keys kids=>by
  have:=depthL_wt kids;rw[depth,Ob.wt];omega
theorem depthL_wt:∀l:List Ob,depthL l≤Ob.wts l
|[]=>by simp[depthL]
|o::l=>by
  have:=depth_wt o;have:=depthL_wt l;rw[depthL,Ob.wts];omega
end
end Cs
theorem vdepth_ret (n:Nat):∀(o:Ob) (v:Value) (w:World),o.wt≤n→o.wt≤10000000000→OV (InW w) w v o→Ret prog 147 #[v] w (fun v w'=>v=.int .i64 (Cs.depth o:Nat)∧Below w.heap.size w w'):=by
 induction n with
|zero=>intro o v w h;have:=o.wt_pos;omega
|succ n ih=>
 intro o v w hn hb hov;obtain⟨vk,vc,cs,rfl,ha⟩:=hov.open;refine ret_of fun K hK=>S_value_Depth_ok ?_;unfold S_value_Depth;refine o_obb o ha.keys.one ha.kids.one (Own.start w) fun b w1 ho=>?_;have hcl:=kids_len (o:=o);have hdw:=Cs.depth_wt o;have hde:=Cs.depth_eq o;rw[fa_o5,ob_kids ho 0 rfl,sl_len Tryz.underlying40 (ha.own ho).kids.1];refine loop (fun vs w'=>∃(i:Nat) (m:Int),vs=[.int .i64 m,.int .i64 i]∧i≤o.kids.length∧m=((Cs.depthL (o.kids.take i):Nat):Int)∧Own w w' [obE b o vk vc]) (fun vs _=>o.kids.length - n1 vs) ⟨0,_,rfl,by omega,by simp[Cs.depthL],ho⟩ ?_;rintro vs w3 ⟨i,m,rfl,hi2,rfl,ho⟩ _;simp only[S_value_Depth_0,gd,rs];have hdt:=Cs.depthL_take o.kids i;by_cases hlt:(i:Int) < (o.kids.length:Int)
 ·have hi':i < o.kids.length:=by omega
  simp only[hlt,decide_true,i_t];have hai:=ha.own ho;refine ob_ia hai.kids.1 hai.all hi' fun v hv=>?_;obtain⟨vk',vc',cs',rfl,hkid⟩:=hv.open;have ho6:=ho;refine o_oba ho fun b7 w7 ho=>?_;refine ob_put 0 hkid.keys.one hkid.kids.one ho rfl fun w8 ho=>?_;have ho:Own w w8 [obE b7 o.kids[i] vk' vc',obE b o vk vc]:=ho;rw[ob_v ho 0 rfl];have hkw:=kid_wt hi';refine c_told (ih o.kids[i] _ w8 (by omega) (by omega) (hkid.later ho6 ho).ov) rfl ho fun w9 ho=>?_;have hd2:=Cs.depthL_take o.kids (i+1);have hss:Cs.depthL (o.kids.take (i+1))=max (Cs.depthL (o.kids.take i)) (Cs.depth o.kids[i]):=by rw[List.take_succ_eq_append_getElem hi',Cs.depthL_snoc]
  rw[b_max64]
  try simp only[rs]
  rw[wrap64_id (by omega) (by omega)];exact nextX ⟨i+1,_,rfl,by omega,by rw[hss];omega,ho.tail⟩ (by simp[n1,RowKit.intOf];omega)
 ·simp only[hlt,decide_false,i_f,rs];have hil:i=o.kids.length:=by omega
  subst hil;rw[List.take_length] at hdt ⊢;rw[wrap64_id (by omega) (by omega)];exact hK _ _ ⟨by rw[hde];rfl,ho.done⟩
end
section
open Eng Go.RowKit
namespace Cs
theorem ends_eq {s:List UInt8}{a:Nat}(ha:a < s.length):ends s a=(Oc.white s[a]&&[69,73].isPrefixOf (s.drop (a+1))&&(decide (a+3=s.length)||(s[a+3]?).any Oc.white)):=by
 unfold ends;rw[Lx.drop_cons ha];have hd:(s.drop (a+1)).drop 2=s.drop (a+3):=by rw[List.drop_drop]
 have hl:(s.drop (a+1)).length=s.length - (a+1):=List.length_drop;generalize hu:s.drop (a+1)=u at *
 match u with
|[]=>simp
|[x]=>simp[List.isPrefixOf]
|x::y::r=>
  have hr:r=s.drop (a+3):=by rw[←hd];rfl
  have he:r.isEmpty=decide (a+3=s.length):=by
   simp only[List.length_cons] at hl;cases r with
  |nil=>rw[decide_eq_true (by simp at hl;omega)];rfl
  |cons _ _=>rw[decide_eq_false (by simp at hl;omega)];rfl
  have hh:r.head?=s[a+3]?:=by rw[hr,List.head?_drop]
  simp only[he,hh,List.isPrefixOf];have e1:((69:UInt8)==x)=decide (x=69):=by
   cases h:decide (x=69) with
  |true=>have:=of_decide_eq_true h;subst this;rfl
  |false=>exact beq_eq_false_iff_ne.2 (Ne.symm (of_decide_eq_false h))
  have e2:((73:UInt8)==y)=decide (y=73):=by
   cases h:decide (y=73) with
  |true=>have:=of_decide_eq_true h;subst this;rfl
  |false=>exact beq_eq_false_iff_ne.2 (Ne.symm (of_decide_eq_false h))
  rw[e1,e2,Bool.and_true,←Bool.and_assoc]
end Cs
theorem opends_ret (s:List UInt8)(a:Nat)(w:World)(ha:a < s.length)(hs:s.length≤1099511627776):Ret prog 109 #[.string ⟨s.toArray⟩,.int .i64 (a:Int)] w (fun v w'=>v=.bool (Cs.ends s a)∧w=w'):=by
 refine ret_of fun K hK=>S_ops_ends_ok ?_;unfold S_ops_ends;have fin:∀{q:Bool},q=Cs.ends s a→K (.returned (.bool q)) w:=fun e=>hK _ _ ⟨by rw[e],rfl⟩;rw[s_ix (c:=s[a]) Tryz.underlying9 (by omega) (by simp[ha])];refine c_eq (white_ret s[a] w) ?_;rw[Cs.ends_eq ha] at fin;have hbg:begins s [69,73] ((a:Int)+1)=[69,73].isPrefixOf (s.drop (a+1)):=by
  unfold begins;rw[decide_eq_true (by omega),decide_eq_true (by omega),show ((a:Int)+1).toNat=a+1 by omega];rfl
 cases hw:Oc.white s[a] with
|false=>
  simp only[rs,Bool.not_false,g_un];exact fin (by rw[hw];rfl)
|true=>
  simp only[rs,Bool.not_true];rw[wrap64_id (by omega) (by omega)];refine c_eq (begins_ret s [69,73] ((a:Int)+1) w) ?_;rw[hbg];cases hp:[69,73].isPrefixOf (s.drop (a+1)) with
 |false=>
   simp only[rs,Bool.not_false];exact fin (by rw[hw,hp];rfl)
 |true=>
   have hlen:a+3≤s.length:=by
    have:=(List.isPrefixOf_iff_prefix.1 hp).length_le;simp only[List.length_cons,List.length_nil,List.length_drop] at this;omega
   simp only[rs,Bool.not_true,s_len Tryz.underlying9];rw[wrap64_id (by omega) (by omega)];by_cases h3:(a:Int)+3=(s.length:Int)
   ·simp only[decide_eq_true h3,rs,g_un];exact fin (by rw[hw,hp,decide_eq_true (show a+3=s.length by omega)];rfl)
   ·simp only[decide_eq_false h3,rs];rw[wrap64_id (by omega) (by omega),s_ix (c:=s[a+3]'(by omega)) Tryz.underlying9 (by omega) (by rw[show ((a:Int)+3).toNat=a+3 by omega];exact List.getElem?_eq_getElem (by omega))];refine c_eq (white_ret (s[a+3]'(by omega)) w) ?_
    try simp only[rs]
    refine fin ?_;rw[hw,hp,decide_eq_false (show ¬a+3=s.length by omega),List.getElem?_eq_getElem (by omega)];rfl
def fltP (a e:Int):PanicEntry:={ v:=.iface 26 (fltV (a,e)),recovered:=false }
theorem nfF:notIface prog 26=true:=by kernel_rfl
theorem opfail_pan (a e:Int)(w:World):Pan prog 63 #[.int .i64 a,.int .i64 e] w (fun c w'=>c=[fltP a e]∧w=w'):=by
 refine pan_of fun K hK=>S_ops_fail_ok ?_;unfold S_ops_fail;have hb:∀{PK:PKT} {K:VWP},DoX prog (mBuild 26 #[(0,.int .i64 a),(1,.int .i64 e)]) w PK K=K (fltV (a,e)) w:=do_eq (by kernel_rfl);rw[hb,m_iface nfF,m_panic];exact hK _ _ ⟨rfl,rfl⟩
theorem opmust_t (a e:Int)(w:World):Ret prog 37 #[.bool true,.int .i64 a,.int .i64 e] w (fun v w'=>v=.tuple #[]∧w=w'):=by
 refine ret_of fun K hK=>S_ops_must_ok ?_;unfold S_ops_must;simp only[rs,Bool.not_true];exact hK _ _ ⟨rfl,rfl⟩
theorem opmust_f (a e:Int)(w:World):Pan prog 37 #[.bool false,.int .i64 a,.int .i64 e] w (fun c w'=>c=[fltP a e]∧w=w'):=by
 refine pan_of fun K hK=>S_ops_must_ok ?_;unfold S_ops_must;simp only[rs,Bool.not_false];exact c_pan (opfail_pan a e w) fun c w' ⟨hc,hw⟩=>by subst hc;subst hw;exact hK _ _ ⟨rfl,rfl⟩
section
variable {w:World}{PK:PKT}{K:VWP}{S:Nat→Prop}{w0:World}{L:List Ent}
theorem c_opmust {q:Bool}{a e:Int}(kt:q=true→K (.tuple #[]) w)(kf:q=false→PK [fltP a e] w):CallX prog 37 #[.bool q,.int .i64 a,.int .i64 e] w PK K:=by
 cases q with
|true=>exact c_eq (opmust_t a e w) (kt rfl)
|false=>exact c_pan (opmust_f a e w) fun c w' ⟨hc,hw⟩=>by subst hc;subst hw;exact kf rfl
end
def orC (s:List UInt8)(a:Int)(vl:Value):List Value:=[.string ⟨s.toArray⟩,.int .i64 a,vl]
abbrev orE (b:Nat)(s:List UInt8)(a:Int)(vl:Value):Ent:=.cells b (orC s a vl) 49
theorem for0:fOff prog 49 0=some 0:=by kernel_rfl
theorem for1:fOff prog 49 1=some 1:=by kernel_rfl
theorem for2:fOff prog 49 2=some 2:=by kernel_rfl
section
variable {w:World}{PK:PKT}{K:VWP}{S:Nat→Prop}{w0:World}{L:List Ent}
theorem fa_or0 {b:Nat}:DoX prog (mFA 49 (.pointer (some ⟨b,0,none⟩)) 0) w PK K=K (.pointer (some ⟨b,0,none⟩)) w:=f_addr for0
theorem fa_or1 {b:Nat}:DoX prog (mFA 49 (.pointer (some ⟨b,0,none⟩)) 1) w PK K=K (.pointer (some ⟨b,1,none⟩)) w:=f_addr for1
theorem fa_or2 {b:Nat}:DoX prog (mFA 49 (.pointer (some ⟨b,0,none⟩)) 2) w PK K=K (.pointer (some ⟨b,2,none⟩)) w:=f_addr for2
theorem or_s {b:Nat}{s:List UInt8}{a:Int}{vl:Value}(h:(orE b s a vl).is w):DoX prog (mLoad 9 (.pointer (some ⟨b,0,none⟩))) w PK K=K (.string ⟨s.toArray⟩) w:=l_cell nStr5 (cells_cell (T:=49) (cs:=orC s a vl) (i:=0) h rfl)
theorem or_a {b:Nat}{s:List UInt8}{a:Int}{vl:Value}(h:(orE b s a vl).is w):DoX prog (mLoad 3 (.pointer (some ⟨b,1,none⟩))) w PK K=K (.int .i64 a) w:=l_cell nInt5 (cells_cell (T:=49) (cs:=orC s a vl) (i:=1) h rfl)
theorem or_l {b:Nat}{s:List UInt8}{a:Int}{vl:Value}(h:(orE b s a vl).is w):DoX prog (mLoad 23 (.pointer (some ⟨b,2,none⟩))) w PK K=K vl w:=l_cell nSlOp (cells_cell (T:=49) (cs:=orC s a vl) (i:=2) h rfl)
theorem orr_s {b:Nat}{s:List UInt8}{a:Int}{vl:Value}(h:(orE b s a vl).is w):(mLoad 9 (.pointer (some ⟨b,0,none⟩))).run prog w=.ok (.value (.string ⟨s.toArray⟩)) w:=run_load_cell nStr5 (cells_cell (T:=49) (cs:=orC s a vl) (i:=0) h rfl)
theorem orr_a {b:Nat}{s:List UInt8}{a:Int}{vl:Value}(h:(orE b s a vl).is w):(mLoad 3 (.pointer (some ⟨b,1,none⟩))).run prog w=.ok (.value (.int .i64 a)) w:=run_load_cell nInt5 (cells_cell (T:=49) (cs:=orC s a vl) (i:=1) h rfl)
theorem or_put (i:Nat){b:Nat}{s:List UInt8}{a a':Int}{vl:Value}(ho:OwnS S w0 w L)(hi:L[i]?=some (orE b s a vl))(k:∀w',OwnS S w0 w' (L.set i (orE b s a' vl))→K undef w'):DoX prog (mStore 3 (.pointer (some ⟨b,1,none⟩)) (.int .i64 a')) w PK K:=
 o_store i ho hi (by kernel_rfl) rfl (show 1 < 3 by omega) k
theorem c_oppeek {b:Nat}{s:List UInt8}{a:Int}{vl:Value}(ho:OwnS S w0 w L)(hr:(orE b s a vl).is w)(hs:s.length≤1099511627776)
  (kr:(Lx.next s a).2=0→∀w',OwnS S w0 w' L→K (tokV (Lx.next s a).1) w') (kp:(Lx.next s a).2≠0→∀w',OwnS S w0 w' L→PK [fltP (Lx.skipI s a) (Lx.next s a).2] w'):CallX prog 36 #[rdP b] w PK K:=by
 have body:∀KE:Ending→World→Prop,((Lx.next s a).2=0→∀w',Below w.heap.size w w'→KE (.returned (tokV (Lx.next s a).1)) w')→((Lx.next s a).2≠0→∀w',Below w.heap.size w w'→KE (.panicked [fltP (Lx.skipI s a) (Lx.next s a).2]) w')→S_ops_reader_peek (rdP b) w KE:=by
  intro KE hret hpan;unfold S_ops_reader_peek;refine o_tok (Own.start w) fun b2 w1 ho=>?_;have hr1:∀{W:World} {L:List Ent},Own w W L→(orE b s a vl).is W:=fun ho=>Ent.below (e:=orE b s a vl) hr ho.done;have two:∀{W:World} {b3:Nat} {t2:Lx.Tok},Own w W [tokE b3 (Lx.next s a).1,tokE b2 t2]→S_ops_reader_peek_0 (rdP b) (.pointer (some ⟨b2,0,none⟩)) (.pointer (some ⟨b3,0,none⟩)) (.int .i64 (Lx.next s a).2) W KE:=by
   intro W b3 t2 ho;unfold S_ops_reader_peek_0;refine quiet (q_eq ?_);refine q_do _ (fun _=>run_nil) (q_do _ (fun _=>run_fa for0) (q_at _ (fun _ hb=>orr_s (hr1 (ho.grow hb))) ?_));refine q_do _ (fun _=>run_nil) (q_do _ (fun _=>run_fa for1) (q_at _ (fun _ hb=>orr_a (hr1 (ho.grow hb))) ?_));refine q_call (.int .i64 (Lx.skipI s a)) (fun W hb=>Ret.mono (skip_ret s a W (by omega)) fun v w' h=>⟨h.1,h.2▸hb⟩) ?_;intro w2 hb;have ho:=ho.grow hb;refine c_opmust (fun h=>?_) fun h=>hpan (of_decide_eq_false h) _ ho.done;rw[tk_v ho 0 rfl];refine tk_put 1 ho rfl fun w3 ho=>?_;exact ret_v1 (rv_cell (ho.agg 1 rfl aggTok)) (hret (of_decide_eq_true h) _ ho.done)
  have ho:=ho.drew;refine⟨fun W=>(orE b s a vl).is W,hr1 ho,?_⟩;refine hd_pure _ (fun _=>run_nil) (hd_pure _ (fun _=>run_fa for0) (hd_do _ (fun W h=>orr_s h) ?_));refine hd_pure _ (fun _=>run_nil) (hd_pure _ (fun _=>run_fa for1) (hd_do _ (fun W h=>orr_a h) ?_));refine⟨?_,?_⟩
  ·refine c_below ho (R:=fun v=>v=tokR (Lx.next s a)) (next_ret s a _ hs) ?_;rintro _ w2 rfl ho;refine hd_pure _ (fun _=>run_ext0) (hd_pure _ (fun _=>run_ext1) ?_);refine o_tok ho fun b3 w3 ho=>⟨hr1 ho,?_⟩;refine tk_put 0 ho rfl fun w4 ho=>?_;exact two ho
  ·refine o_tok ho fun b3 w3 ho=>⟨hr1 ho,?_⟩;refine c_below ho (R:=fun v=>v=tokR (Lx.next s a)) (next_ret s a _ hs) ?_;rintro _ w2 rfl ho;refine hd_pure _ (fun _=>run_ext0) (hd_pure _ (fun _=>run_ext1) ?_);refine tk_put 0 ho rfl fun w4 ho=>?_;exact two ho
 by_cases h:(Lx.next s a).2=0
 ·refine c_ret (R:=fun v w'=>v=tokV (Lx.next s a).1∧Below w.heap.size w w') (ret_of fun KE hKE=>S_ops_reader_peek_ok (body KE (fun _ w' hb=>hKE _ _ ⟨rfl,hb⟩) fun hn=>absurd h hn)) ?_;rintro _ w' ⟨rfl,hb⟩;exact kr h w' (ho.grow hb)
 ·refine c_pan (R:=fun c w'=>c=[fltP (Lx.skipI s a) (Lx.next s a).2]∧Below w.heap.size w w') (pan_of fun KE hKE=>S_ops_reader_peek_ok (body KE (fun hz=>absurd hz h) fun _ w' hb=>hKE _ _ ⟨rfl,hb⟩)) ?_;rintro _ w' ⟨rfl,hb⟩;exact kp h w' (ho.grow hb)
end
end
section
open Eng Go.RowKit
namespace Eng
section
variable {S:Nat→Prop}{P:Program}{w w0:World}{L:List Ent}{PK:PKT}{K:VWP}
theorem c_rmS {f:Nat}{args:Array Value}{e e':Ent}{M:Mem}{ok:Prop}{R:Value→Mem→Prop}{c:List PanicEntry}(A:List Ent){B:List Ent}(ho:OwnS S w0 w (A++(e::.mem M::B)))(h:(Ent.two e (.mem M)).is w→Lent P f args e M w ok e' R c)
  (kr:∀v N w',ok→M.le N→R v N→OwnS S w0 w' (A++(e'::.mem N::B))→K v w') (kp:∀e2 w',¬ok→OwnS S w0 w' (A++(e2::.mem M::B))→PK c w'):CallX P f args w PK K:=by
 have ho:OwnS S w0 w (A++([e,.mem M]++B)):=ho;have ho:OwnS S w0 w (.two e (.mem M)::(A++B)):=OwnS.pair ho.front;refine c_rm ho 0 rfl (h (ho.at_ 0 rfl)) (fun v N w' hk hle hR ho=>kr v N w' hk hle hR ?_) fun e2 w' hk ho=>kp e2 w' hk ?_
 ·have ho:OwnS S w0 w' (.two e' (.mem N)::(A++B)):=ho;have ho:OwnS S w0 w' ([e',.mem N]++(A++B)):=ho.split;exact ho.front
 ·have ho:OwnS S w0 w' (.two e2 (.mem M)::(A++B)):=ho;have ho:OwnS S w0 w' ([e2,.mem M]++(A++B)):=ho.split;exact ho.front
end
end Eng
theorem run_ext2o {a b c:Value}{w:World}:(mExt (.tuple #[a,b,c]) 2).run prog w=.ok (.value c) w:=by kernel_rfl
theorem run_ext0o {a b c:Value}{w:World}:(mExt (.tuple #[a,b,c]) 0).run prog w=.ok (.value a) w:=by kernel_rfl
theorem run_ext1o {a b c:Value}{w:World}:(mExt (.tuple #[a,b,c]) 1).run prog w=.ok (.value b) w:=by kernel_rfl
theorem run_notO {P:Program}{W:World}{b:Bool}:(mUn .not (.bool b)).run P W=.ok (.value (.bool (!b))) W:=mv_run (by simp[Op.unary])
def ObOk (s:List UInt8)(a:Int):Prop:=(Ps.object s a).2.2=0∧Cs.refers (Ps.object s a).1=false
def obBad (s:List UInt8)(a:Int):Int:=if (Ps.object s a).2.2≠0 then (Ps.object s a).2.2 else 3
theorem opobject_ret (b:Nat)(s:List UInt8)(a:Int)(vl:Value)(t:Lx.Tok)(M:Mem)(w:World)(hs:s.length≤1000000000)(hr:(Ent.two (orE b s a vl) (.mem M)).is w) :
  Lent prog 40 #[rdP b,tokV t] (orE b s a vl) M w (ObOk s a) (orE b s (Ps.object s a).2.1 vl) (fun v N=>OV N.A N.w v (Ps.object s a).1) [fltP t.a (obBad s a)]:=by
 refine lent_of (fun K ho hret hpan=>S_ops_reader_object_ok ?_) hr;unfold S_ops_reader_object;generalize (Ent.two (orE b s a vl) (.mem M)).blk=S0 at *;refine o_tkb t ho fun b3 w1 ho=>?_;refine o_oba ho fun b4 w2 ho=>?_;have hwt:(Ps.object s a).2.2=0→(Ps.object s a).1.wt≤10000000000:=fun h=>by
  have:=Ps.object_wt8 h;have:=Bd.object_bd h;have h0:0≤a:=by
   apply Classical.byContradiction;intro hn;unfold Ps.object at h;rw[if_pos (.inl (by omega))] at h;simp[Ps.bad] at h
  omega
 have zero:∀{W:World} {N:Mem} {b5:Nat} {xk xc:Value},OwnS S0 w W [obE b5 (Ps.object s a).1 xk xc,obE b4 ob0 nilS nilS,tokE b3 t,orE b s a vl,.mem N]→M.le N→OV N.A N.w (obV (Ps.object s a).1 xk xc) (Ps.object s a).1 →
   S_ops_reader_object_0 (rdP b) (.pointer (some ⟨b3,0,none⟩)) (.pointer (some ⟨b4,0,none⟩)) (.pointer (some ⟨b5,0,none⟩)) (.int .i64 (Ps.object s a).2.1) (.int .i64 (Ps.object s a).2.2) W K:=by
  intro W N b5 xk xc ho hle hv;unfold S_ops_reader_object_0;have hko:=hv.oneK;have hco:=hv.oneC;simp only[rs,fa_t1,tk_a ho 2 rfl];refine c_opmust (fun hz=>?_) fun hz=>?_
  rotate_left
  ·have hz:¬(Ps.object s a).2.2=0:=of_decide_eq_false hz;have:=hpan (fun h=>hz h.1) _ N W _ (ho.tail.tail.tail) hle;rw[obBad,if_pos hz] at this;exact this
  have hz:(Ps.object s a).2.2=0:=of_decide_eq_true hz;refine quiet (q_at (obV (Ps.object s a).1 xk xc) (fun W hb=>run_load_at ((ho.grow hb).agg 0 rfl aggOb)) ?_);refine q_call (.bool (Cs.refers (Ps.object s a).1)) (fun W2 hb=>ret_grew (oprefers_ret _ (Ps.object s a).1 _ W2 (Nat.le_refl _) (hwt hz) (OV.inw ((ho.grow hb).hasM 4 rfl) hv)) hb) ?_;refine q_do _ (fun _=>run_notO) (q_do _ (fun _=>run_fa ft1) (q_at (.int .i64 t.a) (fun W hb=>run_load_cell nInt5 ((ho.grow hb).cell 2 rfl 1 rfl)) ?_));intro w4 hb;have ho:=ho.grow hb;refine c_opmust (fun hf=>?_) fun hf=>?_
  rotate_left
  ·have hf:Cs.refers (Ps.object s a).1=true:=by simpa using hf
   have:=hpan (fun h=>by rw[h.2] at hf;cases hf) _ N w4 _ (ho.tail.tail.tail) hle;rw[obBad,if_neg (by simp[hz])] at this;exact this
  have hf:Cs.refers (Ps.object s a).1=false:=by simpa using hf
  rw[fa_or1];refine or_put 3 ho rfl fun w5 ho=>?_;have ho:OwnS S0 w w5 [obE b5 (Ps.object s a).1 xk xc,obE b4 ob0 nilS nilS,tokE b3 t,orE b s (Ps.object s a).2.1 vl,.mem N]:=ho;rw[ob_v ho 0 rfl];refine ob_put (o':=(Ps.object s a).1) 1 hko hco ho rfl fun w6 ho=>?_;have ho:OwnS S0 w w6 [obE b5 (Ps.object s a).1 xk xc,obE b4 (Ps.object s a).1 xk xc,tokE b3 t,orE b s (Ps.object s a).2.1 vl,.mem N]:=ho;exact ret_v1 (rv_cell (ho.agg 1 rfl aggOb)) (hret ⟨hz,hf⟩ _ N w6 _ (ho.tail.tail.tail) hle hv)
 have ho:=ho.drew;refine⟨fun W=>(orE b s a vl).is W,ho.at_ 2 rfl,?_⟩;refine hd_pure _ (fun _=>run_nil) (hd_pure _ (fun _=>run_fa for0) (hd_do _ (fun W h=>orr_s h) ?_));refine hd_pure _ (fun _=>run_nil) (hd_pure _ (fun _=>run_fa for1) (hd_do _ (fun W h=>orr_a h) ?_));refine⟨?_,?_⟩
 ·refine c_mem ho 3 rfl (psobject_ret s a hs M _ (ho.hasM 3 rfl)) fun v N w4 hle hR ho=>?_;obtain⟨u,rfl,hu⟩:=hR;obtain⟨xk,xc,xcs,rfl,hx⟩:=hu.open;refine hd_pure _ (fun _=>run_ext0o) (hd_pure _ (fun _=>run_ext1o) (hd_pure _ (fun _=>run_ext2o) ?_));refine o_oba ho fun b5 w5 ho=>⟨ho.at_ 3 rfl,?_⟩;refine ob_put 0 hx.keys.one hx.kids.one ho rfl fun w6 ho=>?_;exact zero ho hle hx.ov
 ·refine o_oba ho fun b5 w5 ho=>⟨ho.at_ 3 rfl,?_⟩;refine c_mem ho 4 rfl (psobject_ret s a hs M _ (ho.hasM 4 rfl)) fun v N w4 hle hR ho=>?_;obtain⟨u,rfl,hu⟩:=hR;obtain⟨xk,xc,xcs,rfl,hx⟩:=hu.open;refine hd_pure _ (fun _=>run_ext0o) (hd_pure _ (fun _=>run_ext1o) (hd_pure _ (fun _=>run_ext2o) ?_));refine ob_put 0 hx.keys.one hx.kids.one ho rfl fun w6 ho=>?_;exact zero ho hle hx.ov
theorem opwhite_ret (b:Nat)(s:List UInt8)(a:Int)(vl:Value)(x:Int)(w:World)(h0:0≤x)(hs:s.length≤1099511627776)(hr:(orE b s a vl).is w) :
  Ret prog 108 #[rdP b,.int .i64 x] w (fun v w'=>v=.bool (Cs.whiteAt s x)∧w=w'):=by
 refine ret_of fun K hK=>S_ops_reader_white_ok ?_;unfold S_ops_reader_white;have fin:∀{q:Bool},q=Cs.whiteAt s x→K (.returned (.bool q)) w:=fun e=>hK _ _ ⟨by rw[e],rfl⟩;unfold Cs.whiteAt at fin;rw[decide_eq_true h0,Bool.true_and] at fin;rw[m_nil,fa_or0,or_s hr,s_len Tryz.underlying9];simp only[rs];by_cases hx:x < (s.length:Int)
 ·have hi:x.toNat < s.length:=by omega
  simp only[decide_eq_true hx,rs,fa_or0,or_s hr];rw[s_ix (c:=s[x.toNat]) Tryz.underlying9 h0 (by simp[hi])];refine c_eq (white_ret s[x.toNat] w) ?_
  try simp only[rs]
  refine fin ?_;rw[List.getElem?_eq_getElem hi];rfl
 ·simp only[decide_eq_false hx,rs,g_un];refine fin ?_;rw[List.getElem?_eq_none (by omega)];rfl
end
section
open Eng Go.RowKit
abbrev orM (b:Nat)(s:List UInt8)(a:Int)(vl:Value)(M:Mem):Ent:=.two (orE b s a vl) (.mem M)
theorem opbuild {S0:Nat→Prop}{w W:World}{b b4 b5 b9:Nat}{s:List UInt8}{a:Int}{vl:Value}{N:Mem}{al:List (List UInt8×Value)}{l:List Ps.Kv}{o:Ob}{K:Ending→World→Prop}
  (hkv:KvR N.A N.w al l) (hnd:(l.map (·.1)).Nodup) (hmade:Ps.Made o l) (hlen:l.length≤8191)
  (ho:OwnS S0 w W [obE b9 Ps.dict0 nilS nilS,keyE nilS [],kidE nilS 0 [],obE b4 ob0 nilS nilS,.mapB b5 al,orM b s a vl N])
  (kend:∀(W':World) (N2:Mem) (L:List Ent) (v:Value),OwnS S0 w W' (orE b s a vl::.mem N2::L)→N.le N2→OV N2.A N2.w v o→K (.returned v) W') :
  DoX prog (mRange 182 (.map (some b5))) W (pk K) fun t49 w=>LoopX [] w (fun vs2 w N2=>∀_:Sg,S_ops_reader_keys_1 (.pointer (some ⟨b4,0,none⟩)) (.map (some b5)) (.pointer (some ⟨b9,0,none⟩)) t49 w N2 K):=by
 have hall:al.length=l.length:=by simpa using congrArg List.length hkv.fst
 obtain⟨es,clock,hf,ho⟩:=ho.openM 4 rfl;refine o_rangeM 4 Tryz.underlying182 ho rfl fun it w1 ho=>?_;refine loop (fun vs w'=>∃(seen:Array Nat) (done:List (List UInt8×Value)) (vk:Value),vs=[]∧SeenM es seen done∧done.length≤al.length∧(∀p∈done,p∈al) ∧
   OwnS S0 w w' [.obj it (.mapIter (some b5) clock seen clock),obE b9 Ps.dict0 vk nilS,keyE vk (liveV done),kidE nilS 0 [],obE b4 ob0 nilS nilS,.obj b5 (.map es clock),orM b s a vl N]) (fun _ w=>al.length - itAt it w)
  ⟨#[],[],nilS,rfl,seen_nil es,by simp,by simp,ho⟩ ?_
 clear ho;rintro vs w2 ⟨seen,done,vk,rfl,hs,hdl,hda,ho⟩ _;simp only[S_ops_reader_keys_1];have hit:itAt it w2=seen.size:=itAt_is (ho.at_ 0 rfl);have hss:=seen_size hs;refine o_nextM 0 5 ho rfl rfl hf hs (fun hperm=>?_) fun p e w3 hpa _ he hek hev hs' hlt ho=>?_
 ·-- all have come
  simp only[ex,i_f];have ho:=ho.tail;have ho:OwnS S0 w w2 [obE b9 Ps.dict0 vk nilS,keyE vk (liveV done),kidE nilS 0 [],obE b4 ob0 nilS nilS,.obj b5 (.map es clock),orM b s a vl N]:=ho;have ho:=ho.shutM 4 rfl hf;have ho:OwnS S0 w w2 [obE b9 Ps.dict0 vk nilS,keyE vk (liveV done),kidE nilS 0 [],obE b4 ob0 nilS nilS,.mapB b5 al,orM b s a vl N]:=ho;rw[fa_o4,ob_keys ho 0 rfl];have hll:=liveV_len done;refine c_ret (ssort_ret vk (liveV done) w2 (ho.at_ 1 rfl) (by omega)) ?_;rintro _ w3 ⟨rfl,ht⟩;have ho:=ho.turn 1 rfl ht;have hsort:sortS (liveV done)=o.keys:=sortS_rise ((liveV_perm hperm).trans (by rw[hkv.live];exact hmade.perm)) hmade.rise;rw[hsort] at ho;have ho:OwnS S0 w w3 [obE b9 Ps.dict0 vk nilS,keyE vk o.keys,kidE nilS 0 [],obE b4 ob0 nilS nilS,.mapB b5 al,orM b s a vl N]:=ho;have hkl:o.keys.length≤8191:=by
   have h1:=hmade.perm.length_eq;have h2:=hkv.live (A:=N.A);have h3:=liveV_len al;rw[←h1,←h2];omega
  rw[fa_o4,ob_keys ho 0 rfl,sl_len Tryz.underlying39 (ho.slU 1 rfl)];refine loop (fun vs w'=>∃(i:Nat) (cs:List Value) (vc:Value),vs=[.int .i64 i]∧i≤o.keys.length∧OVs N.A N.w cs (o.kids.take i) ∧
   OwnS S0 w w' [obE b9 Ps.dict0 vk vc,keyE vk o.keys,kidE vc i cs,obE b4 ob0 nilS nilS,.mapB b5 al,orM b s a vl N]) (fun vs _=>o.keys.length - n0 vs) ⟨0,[],nilS,rfl,by omega,OVs.nil,ho⟩ ?_
  clear ho;rintro vs w4 ⟨i,cs,vc,rfl,hi,hov,ho⟩ _;simp only[S_ops_reader_keys_2,gd,rs];by_cases hlt:(i:Int) < (o.keys.length:Int)
  ·have hi':i < o.keys.length:=by omega
   simp only[decide_eq_true hlt,i_t];obtain⟨g,cap,_,ia,ld⟩:=key_row 1 ho rfl hi';refine do_eq (ia w4) |>.mpr (do_eq (ld w4 (ho.at_ 1 rfl)) |>.mpr ?_);rw[fa_o5,ob_kids ho 0 rfl];obtain⟨v,hv,hvo⟩:=hkv.look hnd (Ps.made_at hmade hi');rw[lookF 4 ho rfl hv];obtain⟨xk,xc,xcs,rfl,hx⟩:=hvo.open;refine o_obs1 _ hx.keys.one hx.kids.one ho fun nb w5 ho=>?_;refine o_apO 3 ho rfl (ho.sl 0 rfl 6 1 1 rfl) (obC_one _ hx.keys.one hx.kids.one) (by omega) fun vc' w6 ho=>?_;have ho:=ho.tail;have hvc':=urow_one (ho.at_ 2 rfl);rw[fa_o5];refine o_store 0 ho rfl (by kernel_rfl) hvc' (show 0+5 < 6 by omega) fun w7 ho=>?_;rw[wrap64_id (by omega) (by omega)];refine nextX ⟨i+1,_,vc',rfl,by omega,?_,ho⟩ (by show o.keys.length - Int.toNat ((i:Int)+1) < o.keys.length - Int.toNat (i:Int);omega);have hkl2:i < o.kids.length:=by have:=hmade.len;omega
   rw[List.take_succ_eq_append_getElem hkl2];exact ovs_app hov (ovs_1 hx.ov)
  ·have hi':i=o.keys.length:=by omega
   simp only[decide_eq_false hlt,i_f];subst hi';rw[hmade.len,List.take_length] at hov;have hvk:=urow_one (ho.at_ 1 rfl);have hvc:=urow_one (ho.at_ 2 rfl);rw[ob_v ho 0 rfl];refine ob_put (o':=Ps.dict0) 3 hvk hvc ho rfl fun w5 ho=>?_;refine ret_v1 (rv_cell (ho.agg 3 rfl aggOb)) ?_;have ho:OwnS S0 w w5 ([obE b9 Ps.dict0 vk vc,keyE vk o.keys,kidE vc o.keys.length cs,obE b4 Ps.dict0 vk vc,.mapB b5 al]++([orM b s a vl N]++[])):=ho;have ho:=ho.front.split;have ho:OwnS S0 w w5 ([orE b s a vl,.mem N,obE b9 Ps.dict0 vk vc]++([keyE vk o.keys,kidE vc o.keys.length cs]++[obE b4 Ps.dict0 vk vc,.mapB b5 al])):=ho;have ho:=ho.front;obtain⟨N2,hle2,hrow2,ho⟩:=OwnS.freezeU (L:=[kidE vc o.keys.length cs,orE b s a vl,.mem N,obE b9 Ps.dict0 vk vc,obE b4 Ps.dict0 vk vc,.mapB b5 al]) ho 2 rfl;obtain⟨N3,hle3,hrow3,ho⟩:=OwnS.freezeU (L:=[orE b s a vl,.mem N2,obE b9 Ps.dict0 vk vc,obE b4 Ps.dict0 vk vc,.mapB b5 al]) ho 1 rfl;have hval:obV Ps.dict0 vk vc=obV o vk vc:=by
    unfold obV obC;rw[hmade.k,hmade.n,hmade.g,hmade.s];rfl
   refine kend w5 N3 _ _ ho (hle2.trans hle3) ?_;show OV N3.A N3.w (obV Ps.dict0 vk vc) o;rw[hval];rw[hmade.len] at hrow3;exact ObAt.ov ⟨hrow2.le hle3,hrow3,(hov.le hle2).le hle3⟩
 ·simp only[ex,i_t];have ho:OwnS S0 w w3 [.obj it (.mapIter (some b5) clock (seen.push e.born) clock),obE b9 Ps.dict0 vk nilS,keyE vk (liveV done),kidE nilS 0 [],obE b4 ob0 nilS nilS,.obj b5 (.map es clock),orM b s a vl N]:=ho;rw[e_entry 0 5 ho rfl rfl hf he,hek,hev];simp only[ex];obtain⟨x,hxl,hxo⟩:=hkv.mem hpa;have hkind:=kindV_of hxo;obtain⟨xk,xc,xcs,hpe,hx⟩:=hxo.open;obtain⟨pk1,pv⟩:=p;simp only at hpe hkind;subst hpe;refine o_oba ho fun b11 w4 ho=>?_;refine ob_put (o':=x) 0 hx.keys.one hx.kids.one ho rfl fun w5 ho=>?_;have ho:OwnS S0 w w5 [obE b11 x xk xc,.obj it (.mapIter (some b5) clock (seen.push e.born) clock),obE b9 Ps.dict0 vk nilS,keyE vk (liveV done),kidE nilS 0 [],obE b4 ob0 nilS nilS,.obj b5 (.map es clock),orM b s a vl N]:=ho;rw[fa_o0,ob_k ho 0 rfl];simp only[rs];have hsn:=liveV_snoc done (pk1,obV x xk xc);have mea:∀{W:World} {L:List Ent},OwnS S0 w W L→L[0]?=some (.obj it (.mapIter (some b5) clock (seen.push e.born) clock))→al.length - itAt it W < al.length - itAt it w2:=by
   intro W L ho hi;rw[hit,itAt_is (ho.at_ 0 hi),Array.size_push];omega
  have hda':∀q∈done++[(pk1,obV x xk xc)],q∈al:=by
   intro q hq;rcases List.mem_append.1 hq with hq|hq
   ·exact hda q hq
   ·rw[List.mem_singleton] at hq;subst hq;exact hpa
  by_cases hk:x.k=0
  ·simp only[hk,ne_eq,not_true,decide_false,i_f];rw[if_neg (by rw[hkind,hk];simp),List.append_nil] at hsn;refine nextX ⟨_,done++[(pk1,obV x xk xc)],vk,rfl,hs',by simp;omega,hda',?_⟩ (mea ho.tail rfl);rw[hsn];exact ho.tail
  ·simp only[hk,ne_eq,not_false_eq_true,decide_true,i_t];rw[if_pos (by rw[hkind];exact hk)] at hsn;rw[fa_o4,ob_keys ho 2 rfl];have hll:=liveV_len done;show DoX prog (mBuildS 39 1 #[(0,.string ⟨pk1.toArray⟩)]) w5 _ _;refine o_strb1 pk1 ho fun nb w6 ho=>?_;refine o_apS 4 ho rfl (ho.sl 0 rfl 1 1 1 rfl) (by simp[Value.oneCell']) (by omega) fun vk' w7 ho=>?_;have ho:=ho.tail.tail;have ho:OwnS S0 w w7 [.obj it (.mapIter (some b5) clock (seen.push e.born) clock),obE b9 Ps.dict0 vk nilS,keyE vk' (liveV done++[pk1]),kidE nilS 0 [],obE b4 ob0 nilS nilS,.obj b5 (.map es clock),orM b s a vl N]:=by
    have e:strsV (liveV done++[pk1])=strsV (liveV done)++[.string ⟨pk1.toArray⟩]:=by rw[strsV_app];rfl
    rw[keyE,List.length_append,List.length_singleton,e];exact ho
   have hvk':=urow_one (ho.at_ 2 rfl);rw[fa_o4];refine o_store 1 ho rfl (by kernel_rfl) hvk' (show 0+4 < 6 by omega) fun w8 ho=>?_;refine nextX ⟨_,done++[(pk1,obV x xk xc)],vk',rfl,hs',by simp;omega,hda',?_⟩ (mea ho rfl);rw[hsn];exact ho
theorem orAt_is {b:Nat}{s:List UInt8}{a:Int}{vl:Value}{w:World}(h:(orE b s a vl).is w):rdAt b w=a.toNat:=by
 unfold rdAt;rw[cells_cell (T:=49) (cs:=orC s a vl) (i:=1) h rfl]
theorem opkeys_ret (b:Nat)(s:List UInt8)(a:Int)(vl:Value)(M:Mem)(w:World)(h0:0≤a)(h1:a≤s.length)(hs:s.length≤1000000000)(hr:(Ent.two (orE b s a vl) (.mem M)).is w) :
  Lent prog 107 #[rdP b] (orE b s a vl) M w ((Cs.keys s (s.length+1) a Ps.dict0 []).2.2.e=0) (orE b s (Cs.keys s (s.length+1) a Ps.dict0 []).2.1 vl) (fun v N=>OV N.A N.w v (Cs.keys s (s.length+1) a Ps.dict0 []).1)
   [fltP (Cs.keys s (s.length+1) a Ps.dict0 []).2.2.at_ (Cs.keys s (s.length+1) a Ps.dict0 []).2.2.e]:=by
 generalize hR:Cs.keys s (s.length+1) a Ps.dict0 []=R;refine lent_of (fun K ho hret hpan=>S_ops_reader_keys_ok ?_) hr;unfold S_ops_reader_keys;refine o_oba ho fun b4 w1 ho=>?_;refine o_mapNewB ho fun b5 w2 ho=>?_;generalize hS0:(Ent.two (orE b s a vl) (.mem M)).blk=S0 at *;have ho:OwnS S0 w w2 [.mapB b5 [],obE b4 ob0 nilS nilS,orE b s a vl,.mem M]:=ho;have fall:∀{W:World} {L:List Ent} {e2:Ent} {N:Mem} (f:Cs.Flt),OwnS S0 w W (L++([e2,.mem N]++[]))→M.le N→R=(Vl.ob0,0,f)→f.e≠0→pk K [fltP f.at_ f.e] W:=by
  intro W L e2 N f ho hle he h0;subst he;exact hpan h0 e2 N W _ ho.front hle
 refine loop (fun vs w'=>∃(a':Int) (m:Nat) (o:Ob) (l:List Ps.Kv) (al:List (List UInt8×Value)) (N:Mem),vs=[]∧0≤a'∧a'≤s.length∧(l.length:Int)≤a'∧l.length≤8191∧l.length+m=s.length+1 ∧
   Cs.keys s m a' o (l.map (·.1))=R∧M.le N∧KvR N.A N.w al l∧(l.map (·.1)).Nodup∧Ps.Made o l ∧
   OwnS S0 w w' [.mapB b5 al,obE b4 ob0 nilS nilS,orE b s a' vl,.mem N]) (fun _ w=>s.length - rdAt b w)
  ⟨a,s.length+1,Ps.dict0,[],[],M,rfl,h0,h1,by simpa using h0,by simp,by simp,hR,M.le_refl,trivial,List.nodup_nil,Ps.made0,ho⟩ ?_
 clear ho hR;rintro vs w4 ⟨a',m,o,l,al,N,rfl,ha0,ha1,hla,hmx,hml,hdict,hle,hkv,hnd,hmade,ho⟩ _;simp only[S_ops_reader_keys_0];obtain⟨m,rfl⟩:∃k,m=k+1:=⟨m - 1,by omega⟩;have hall:al.length=l.length:=by simpa using congrArg List.length hkv.fst
 have hat:rdAt b w4=a'.toNat:=orAt_is (ho.at_ 2 rfl);rw[Cs.keys] at hdict;have hbd:=@Lx.next_bd s a';have hge:=Lx.skip_ge s a'.toNat;refine c_oppeek ho (ho.at_ 2 rfl) (by omega) (fun e1 w5 ho=>?_) fun e1 w5 ho=>?_
 rotate_left
 ·rw[if_pos e1] at hdict;exact fall (L:=[_,_]) _ ho hle hdict.symm e1
 rw[if_neg (by simp[e1])] at hdict;generalize Lx.next s a'=x at *
 refine o_tok ho fun b6 w6 ho=>?_;refine tk_put 0 ho rfl fun w7 ho=>?_;have ho:OwnS S0 w w7 [tokE b6 x.1,.mapB b5 al,obE b4 ob0 nilS nilS,orE b s a' vl,.mem N]:=ho;refine quiet (q_do _ (fun _=>run_fa ft0) (q_at (.int .i64 x.1.k) (fun W hb=>tkr_k (ho.grow hb) 0 rfl) (q_ne ?_)));refine q_do _ (fun _=>run_nil) (q_do _ (fun _=>run_fa for0) (q_at _ (fun W hb=>orr_s ((ho.grow hb).at_ 3 rfl)) (q_slen Tryz.underlying9 ?_)));intro w8 hb;have ho:=ho.grow hb;refine c_opmust (fun e2=>?_) fun e2=>?_
 rotate_left
 ·have e2:x.1.k=0:=by simpa using e2
  rw[if_pos e2] at hdict;exact fall (L:=[_,_,_]) ⟨s.length,4⟩ ho hle hdict.symm (show (4:Int)≠0 by decide)
 have e2:x.1.k≠0:=of_decide_eq_true e2;rw[if_neg e2] at hdict;have hbd:=hbd e1 e2;rw[fa_t2,tk_t ho 0 rfl];simp only[rs,fa_or1];refine or_put 3 ho rfl fun w9 ho=>?_;have ho:OwnS S0 w w9 [tokE b6 x.1,.mapB b5 al,obE b4 ob0 nilS nilS,orE b s x.1.t vl,.mem N]:=ho;rw[fa_t0,tk_k ho 0 rfl];simp only[rs];by_cases e3:x.1.k=5
 ·by_cases e3s:x.1.s=[73,68]
  ·rw[if_pos ⟨e3,e3s⟩] at hdict;simp only[decide_eq_true e3,rs,fa_t4',tk_s ho 0 rfl,decide_eq_true e3s];have hb7:∀{PK:PKT} {K:VWP},DoX prog (mBuild 42 #[(0,(.int .i64 7))]) w9 PK K=K (obV Ps.dict0 nilS nilS) w9:=do_eq (by kernel_rfl);rw[hb7];have ho:=(ho.nilU 42 6).nilU 9 1;refine o_oba ho fun b9 w10 ho=>?_;refine ob_put (o':=Ps.dict0) (vk':=nilS) (vc':=nilS) 0 rfl rfl ho rfl fun w11 ho=>?_;have ho:OwnS S0 w w11 ([obE b9 Ps.dict0 nilS nilS,keyE nilS [],kidE nilS 0 [],tokE b6 x.1,.mapB b5 al,obE b4 ob0 nilS nilS]++([orE b s x.1.t vl,.mem N]++[])):=ho;have ho:OwnS S0 w w11 (orM b s x.1.t vl N::[obE b9 Ps.dict0 nilS nilS,keyE nilS [],kidE nilS 0 [],tokE b6 x.1,.mapB b5 al,obE b4 ob0 nilS nilS]):=OwnS.pair ho.front;have ho:OwnS S0 w w11 ([orM b s x.1.t vl N,obE b9 Ps.dict0 nilS nilS,keyE nilS [],kidE nilS 0 []]++([tokE b6 x.1]++[.mapB b5 al,obE b4 ob0 nilS nilS])):=ho;have ho:=ho.front.tail;have ho:OwnS S0 w w11 ([]++([orM b s x.1.t vl N]++([obE b9 Ps.dict0 nilS nilS,keyE nilS [],kidE nilS 0 []]++([.mapB b5 al]++[obE b4 ob0 nilS nilS])))):=ho;have ho:OwnS S0 w w11 [obE b9 Ps.dict0 nilS nilS,keyE nilS [],kidE nilS 0 [],obE b4 ob0 nilS nilS,.mapB b5 al,orM b s x.1.t vl N]:=by
    refine ho.perm ?_;have p1:([.mapB b5 al,obE b4 ob0 nilS nilS]:List Ent).Perm [obE b4 ob0 nilS nilS,.mapB b5 al]:=List.Perm.swap _ _ _;exact (List.perm_append_comm (l₁:=[orM b s x.1.t vl N]) (l₂:=[obE b9 Ps.dict0 nilS nilS,keyE nilS [],kidE nilS 0 [],.mapB b5 al,obE b4 ob0 nilS nilS])).trans
     (((p1.append_left [obE b9 Ps.dict0 nilS nilS,keyE nilS [],kidE nilS 0 []])).append_right [orM b s x.1.t vl N])
   refine opbuild hkv hnd hmade hmx ho fun W N2 L v ho hle2 hv=>?_;subst hdict;exact hret rfl v N2 W L ho (hle.trans hle2) hv
  ·rw[if_neg (fun h=>e3s h.2),if_pos (by omega)] at hdict;simp only[decide_eq_true e3,rs,fa_t4',tk_s ho 0 rfl,decide_eq_false e3s,fa_t0,tk_k ho 0 rfl,fa_t1,tk_a ho 0 rfl];refine c_opmust (fun h=>absurd (of_decide_eq_true h) (by omega)) fun h=>?_;exact fall (L:=[_,_,_]) ⟨x.1.a,3⟩ ho hle hdict.symm (show (3:Int)≠0 by decide)
 rw[if_neg (fun h=>e3 h.1)] at hdict;simp only[decide_eq_false e3,rs,g_un,fa_t0,tk_k ho 0 rfl,fa_t1,tk_a ho 0 rfl];refine c_opmust (fun e4=>?_) fun e4=>?_
 rotate_left
 ·rw[if_pos (of_decide_eq_false e4)] at hdict;exact fall (L:=[_,_,_]) ⟨x.1.a,3⟩ ho hle hdict.symm (show (3:Int)≠0 by decide)
 have e4:x.1.k=4:=of_decide_eq_true e4;rw[if_neg (by simp[e4])] at hdict;rw[fa_t4',tk_s ho 0 rfl,lookT 1 ho rfl];simp only[ex];have hlook:∃o' vk vc,(lookA al x.1.s).getD (obV ob0 nilS nilS)=obV o' vk vc∧vk.oneCell'=true∧vc.oneCell'=true:=by
  cases hl:lookA al x.1.s with
 |none=>exact⟨ob0,nilS,nilS,rfl,rfl,rfl⟩
 |some v=>
   have hm:(x.1.s,v)∈al:=by
    unfold lookA at hl;obtain⟨p,hp,hpv⟩:=Option.map_eq_some_iff.1 hl;have h1:=List.find?_some hp;have h2:=List.mem_of_find?_eq_some hp;simp only[decide_eq_true_eq] at h1;rw[←h1,←hpv];exact h2
   obtain⟨q,_,hq⟩:=hkv.mem hm;obtain⟨vk,vc,cs,he,ha⟩:=hq.open;exact⟨q,vk,vc,he,ha.keys.one,ha.kids.one⟩
 obtain⟨o',vk7,vc7,hlv,ok7,oc7⟩:=hlook;rw[hlv];refine o_oba ho fun b7 w10 ho=>?_;refine ob_put (o':=o') 0 ok7 oc7 ho rfl fun w11 ho=>?_;have ho:=ho.tail;have ho:OwnS S0 w w11 [tokE b6 x.1,.mapB b5 al,obE b4 ob0 nilS nilS,orE b s x.1.t vl,.mem N]:=ho;have hmet:(lookA al x.1.s).isSome=decide (x.1.s∈l.map (·.1)):=by
  rw[←hkv.fst];cases hl:lookA al x.1.s with
 |none=>rw[decide_eq_false (lookA_none.1 hl)];rfl
 |some v=>
   have:¬x.1.s ∉ al.map (·.1):=fun h=>by rw[lookA_none.2 h] at hl;cases hl
   rw[decide_eq_true (Classical.not_not.1 this)];rfl
 simp only[rs,hmet,fa_t1,tk_a ho 0 rfl];refine c_opmust (fun e5=>?_) fun e5=>?_
 rotate_left
 ·have e5:x.1.s∈l.map (·.1):=by simpa using e5
  rw[if_pos e5] at hdict;exact fall (L:=[_,_,_]) ⟨x.1.a,9⟩ ho hle hdict.symm (show (9:Int)≠0 by decide)
 have e5:x.1.s ∉ l.map (·.1):=by simpa using e5
 rw[if_neg e5,List.length_map] at hdict;rw[lenM 1 ho rfl];simp only[rs,fa_t1,tk_a ho 0 rfl];refine c_opmust (fun e6=>?_) fun e6=>?_
 rotate_left
 ·have e6:=of_decide_eq_false e6;rw[if_pos (by omega)] at hdict;exact fall (L:=[_,_,_]) ⟨x.1.a,6⟩ ho hle hdict.symm (show (6:Int)≠0 by decide)
 have e6:=of_decide_eq_true e6;rw[if_neg (by omega)] at hdict;have hbd2:=@Lx.next_bd s x.1.t;have hob:(Ps.object s x.1.t).2.2=0→x.1.t < (Ps.object s x.1.t).2.1∧(Ps.object s x.1.t).2.1≤s.length:=fun h=>Bd.object_bd h;have hwt:(Ps.object s x.1.t).2.2=0→(Ps.object s x.1.t).1.wt≤10000000000:=fun h=>by
  have:=Ps.object_wt8 h;have:=Bd.object_bd h;omega
 refine c_oppeek ho (ho.at_ 3 rfl) (by omega) (fun f1 w12 ho=>?_) fun f1 w12 ho=>?_
 rotate_left
 ·rw[if_pos f1] at hdict;exact fall (L:=[_,_,_]) _ ho hle hdict.symm f1
 rw[if_neg (by simp[f1])] at hdict;generalize Lx.next s x.1.t=y at *
 refine o_tok ho fun b7 w13 ho=>?_;refine tk_put 0 ho rfl fun w14 ho=>?_;have ho:OwnS S0 w w14 [tokE b7 y.1,tokE b6 x.1,.mapB b5 al,obE b4 ob0 nilS nilS,orE b s x.1.t vl,.mem N]:=ho;refine quiet (q_do _ (fun _=>run_fa ft0) (q_at (.int .i64 y.1.k) (fun W hb=>tkr_k (ho.grow hb) 0 rfl) (q_ne ?_)));refine q_do _ (fun _=>run_nil) (q_do _ (fun _=>run_fa for0) (q_at _ (fun W hb=>orr_s ((ho.grow hb).at_ 4 rfl)) (q_slen Tryz.underlying9 ?_)));intro w15 hb;have ho:=ho.grow hb;refine c_opmust (fun f2=>?_) fun f2=>?_
 rotate_left
 ·have f2:y.1.k=0:=by simpa using f2
  rw[if_pos f2] at hdict;exact fall (L:=[_,_,_,_]) ⟨s.length,4⟩ ho hle hdict.symm (show (4:Int)≠0 by decide)
 have f2:y.1.k≠0:=of_decide_eq_true f2;rw[if_neg f2] at hdict;rw[tk_v ho 0 rfl];refine c_rmS [_,_,_,_] ho (fun h=>opobject_ret b s x.1.t vl y.1 N w15 hs h) (fun v N2 w16 hok hle2 hv ho=>?_) fun e2 w16 hn ho=>?_
 rotate_left
 ·by_cases g1:(Ps.object s x.1.t).2.2≠0
  ·rw[if_pos g1] at hdict;have:=fall (L:=[_,_,_,_]) _ ho hle hdict.symm g1;unfold obBad;rw[if_pos g1];exact this
  ·rw[if_neg g1] at hdict;have g2:Cs.refers (Ps.object s x.1.t).1=true:=by
    cases hc:Cs.refers (Ps.object s x.1.t).1 with
   |true=>rfl
   |false=>exact absurd ⟨Classical.not_not.1 g1,hc⟩ hn
   rw[if_pos g2] at hdict;have:=fall (L:=[_,_,_,_]) ⟨y.1.a,3⟩ ho hle hdict.symm (show (3:Int)≠0 by decide);unfold obBad;rw[if_neg g1];exact this
 obtain⟨g1,g2⟩:=hok;rw[if_neg (by simp[g1]),if_neg (by simp[g2])] at hdict;have hob:=hob g1;have hwt:=hwt g1;generalize Ps.object s x.1.t=e at *;have ho:OwnS S0 w w16 [tokE b7 y.1,tokE b6 x.1,.mapB b5 al,obE b4 ob0 nilS nilS,orE b s e.2.1 vl,.mem N2]:=ho;obtain⟨xk,xc,xcs,rfl,hx⟩:=hv.open;refine o_oba ho fun b8 w17 ho=>?_;refine ob_put (o':=e.1) 0 hx.keys.one hx.kids.one ho rfl fun w18 ho=>?_;have ho:OwnS S0 w w18 [obE b8 e.1 xk xc,tokE b7 y.1,tokE b6 x.1,.mapB b5 al,obE b4 ob0 nilS nilS,orE b s e.2.1 vl,.mem N2]:=ho;refine quiet (q_at (obV e.1 xk xc) (fun W hb=>run_load_at ((ho.grow hb).agg 0 rfl aggOb)) ?_);refine q_call (.int .i64 (Cs.depth e.1:Nat)) (fun W2 hb=>ret_grew (vdepth_ret _ e.1 _ W2 (Nat.le_refl _) hwt (OV.inw ((ho.grow hb).hasM 6 rfl) hv)) hb) (q_lss ?_);refine q_do _ (fun _=>run_fa ft1) (q_at (.int .i64 y.1.a) (fun W hb=>run_load_cell nInt5 ((ho.grow hb).cell 1 rfl 1 rfl)) ?_);intro w19 hb;have ho:=ho.grow hb;refine c_opmust (fun g3=>?_) fun g3=>?_
 rotate_left
 ·have g3:=of_decide_eq_false g3;rw[if_pos (by omega)] at hdict;exact fall (L:=[_,_,_,_,_]) ⟨y.1.a,7⟩ ho (hle.trans hle2) hdict.symm (show (7:Int)≠0 by decide)
 have g3:=of_decide_eq_true g3;rw[if_neg (by omega)] at hdict;rw[fa_t4',tk_s ho 2 rfl,ob_v ho 0 rfl];have hln:lookA al x.1.s=none:=lookA_none.2 (by rw[hkv.fst];exact e5);refine o_mapAddB 3 Tryz.underlying182 Tryz.underlying9 ho rfl x.1.s _ hln fun w20 ho=>?_;have hm2:=Ps.made_join (v:=e.1) hmade e5;have hnd2:((l++[(x.1.s,e.1)]).map (·.1)).Nodup:=by
  rw[List.map_append,List.nodup_append];refine⟨hnd,by simp,fun p hp q hq=>?_⟩;simp at hq;subst hq;exact fun h=>e5 (h▸hp)
 have h5:a' < e.2.1:=by
  have:=hob.1;omega
 refine nextX ⟨e.2.1,m,Ps.join o x.1.s e.1,l++[(x.1.s,e.1)],al++[(x.1.s,obV e.1 xk xc)],N2,rfl,by omega,hob.2,by simp;omega,by simp;omega,by simp;omega,?_,hle.trans hle2,(hkv.le hle2).snoc hx.ov,hnd2,hm2,ho.tail.tail.tail⟩ ?_
 ·rw[List.map_append];exact hdict
 ·have hat2:rdAt b w20=e.2.1.toNat:=orAt_is (ho.at_ 5 rfl);show s.length - rdAt b w20 < s.length - rdAt b w4;rw[hat,hat2];exact meas ha0 h5 hob.2
end
section
open Eng Go.RowKit
def OpOV (N:Mem)(v:Value)(o:Cop):Prop:=∃va acs,v=opV o va∧OpAt N.A N.w o va acs
theorem run_opb {W:World}(va:Value)(ha:va.oneCell'=true)(d:List UInt8):(mBuild 44 #[(0,.string ⟨#[66,73]⟩),(1,va),(2,.string ⟨d.toArray⟩)]).run prog W=.ok (.value (.agg #[.string ⟨#[66,73]⟩,va,.string ⟨d.toArray⟩])) W:=by
 cases va<;>first|(cases ha;done)|kernel_rfl
theorem opimage_ret (b:Nat)(s:List UInt8)(a:Int)(vl:Value)(M:Mem)(w:World)(h0:0≤a)(h1:a≤s.length)(hs:s.length≤1000000000)(hr:(Ent.two (orE b s a vl) (.mem M)).is w) :
  Lent prog 64 #[rdP b] (orE b s a vl) M w ((Cs.image s a).2.2.e=0) (orE b s (Cs.image s a).2.1 vl) (fun v N=>OpOV N v (Cs.image s a).1) [fltP (Cs.image s a).2.2.at_ (Cs.image s a).2.2.e]:=by
 generalize hR:Cs.image s a=R;refine lent_of (fun K ho hret hpan=>S_ops_reader_image_ok ?_) hr;unfold S_ops_reader_image;refine o_opa ho fun b2 w1 ho=>?_;generalize hS0:(Ent.two (orE b s a vl) (.mem M)).blk=S0 at *;have fall:∀{W:World} {L:List Ent} {e2:Ent} {N:Mem} (f:Cs.Flt),OwnS S0 w W (L++([e2,.mem N]++[]))→M.le N→R=(Cs.op0,0,f)→f.e≠0→pk K [fltP f.at_ f.e] W:=by
  intro W L e2 N f ho hle he h0;subst he;exact hpan h0 e2 N W _ ho.front hle
 have hkb:=fun h=>Cs.keys_bd (s:=s) (s.length+1) (a:=a) (o:=Ps.dict0) (met:=[]) h;unfold Cs.image at hR;simp only at hR;refine c_rmS [_] ho (fun h=>opkeys_ret b s a vl M w1 h0 h1 hs h) (fun v N w2 hok hle hv ho=>?_) fun e2 w2 hn ho=>?_
 rotate_left
 ·rw[if_pos hn] at hR;exact fall (L:=[_]) _ ho M.le_refl hR.symm hn
 rw[if_neg (by simp[hok])] at hR;have hkb:=hkb hok;generalize Cs.keys s (s.length+1) a Ps.dict0 []=d at *;have ho:OwnS S0 w w2 [opE b2 Cs.op0 nilS,orE b s d.2.1 vl,.mem N]:=ho;obtain⟨xk,xc,xcs,rfl,hx⟩:=hv.open;refine o_oba ho fun b3 w3 ho=>?_;refine ob_put (o':=d.1) 0 hx.keys.one hx.kids.one ho rfl fun w4 ho=>?_;have ho:OwnS S0 w w4 [obE b3 d.1 xk xc,opE b2 Cs.op0 nilS,orE b s d.2.1 vl,.mem N]:=ho;refine quiet (q_do _ (fun _=>run_nil) (q_do _ (fun _=>run_fa for1) (q_at _ (fun W hb=>orr_a ((ho.grow hb).at_ 2 rfl)) ?_)));refine q_call (.bool (Cs.whiteAt s d.2.1)) (fun W hb=>Ret.mono (opwhite_ret b s d.2.1 vl d.2.1 W (by omega) (by omega) ((ho.grow hb).at_ 2 rfl)) fun v w' h=>⟨h.1,h.2▸hb⟩) ?_;refine q_do _ (fun _=>run_nil) (q_do _ (fun _=>run_fa for1) (q_at _ (fun W hb=>orr_a ((ho.grow hb).at_ 2 rfl)) ?_));intro w5 hb;have ho:=ho.grow hb;refine c_opmust (fun hw=>?_) fun hw=>?_
 rotate_left
 ·rw[if_pos hw] at hR;exact fall (L:=[_,_]) ⟨d.2.1,3⟩ ho hle hR.symm (show (3:Int)≠0 by decide)
 rw[if_neg (by simp[hw])] at hR;have ht:d.2.1 < s.length:=by
  unfold Cs.whiteAt at hw;apply Classical.byContradiction;intro hn;rw[List.getElem?_eq_none (by omega)] at hw;simp at hw
 simp only[rs,fa_or1,or_a (ho.at_ 2 rfl)];rw[wrap64_id (by omega) (by omega)];generalize hF:Cs.findE s (s.length+1) (d.2.1.toNat+1)=F at hR;refine loop (fun vs w'=>∃(i m:Nat),vs=[.int .i64 (i:Int)]∧d.2.1+1≤i∧i≤s.length∧s.length+1≤i+m∧F=Cs.findE s m i∧OwnS S0 w w' [obE b3 d.1 xk xc,opE b2 Cs.op0 nilS,orE b s d.2.1 vl,.mem N]) (fun vs _=>s.length - n0 vs)
  ⟨d.2.1.toNat+1,s.length+1,by rw[show ((d.2.1.toNat+1:Nat):Int)=d.2.1+1 by omega],by omega,by omega,by omega,hF.symm,ho⟩ ?_
 clear ho;rintro vs w6 ⟨i,m,rfl,hi1,hi2,him,hf,ho⟩ _;simp only[S_ops_reader_image_0,gd];rw[m_nil,fa_or0,or_s (ho.at_ 2 rfl),s_len Tryz.underlying9];simp only[rs];obtain⟨m,rfl⟩:∃k,m=k+1:=⟨m - 1,by omega⟩;rw[Cs.findE] at hf;by_cases hlt:(i:Int) < (s.length:Int)
 ·have hi':i < s.length:=by omega
  rw[if_neg (by omega)] at hf;simp only[decide_eq_true hlt,i_t,fa_or0,or_s (ho.at_ 2 rfl)];refine c_eq (opends_ret s i w6 hi' (by omega)) ?_;cases he:Cs.ends s i with
 |false=>
   rw[he,if_neg (by simp)] at hf;simp only[i_f,rs];rw[wrap64_id (by omega) (by omega)];exact nextX ⟨i+1,m,rfl,by omega,by omega,by omega,hf,ho⟩ (by simp[n0,RowKit.intOf];omega)
 |true=>
   rw[he,if_pos rfl] at hf;rw[hf] at hR;simp only at hR;simp only[i_t,rs];rw[wrap64_id (by omega) (by omega),fa_or1];refine or_put 2 ho rfl fun w7 ho=>?_;have ho:OwnS S0 w w7 [obE b3 d.1 xk xc,opE b2 Cs.op0 nilS,orE b s ((i:Int)+3) vl,.mem N]:=ho;have ho:=ho.drew;refine⟨fun W=>(obE b3 d.1 xk xc).is W∧(orE b s ((i:Int)+3) vl).is W,⟨ho.at_ 0 rfl,ho.at_ 2 rfl⟩,?_⟩;refine hd_do (obV d.1 xk xc) (fun W h=>run_load_at (AtV.agg aggOb (cs:=obC d.1 xk xc) rfl fun j u hj=>by rw[Nat.zero_add];exact cells_cell (T:=42) h.1 hj)) ?_;refine hd_pure _ (fun _=>run_nil) (hd_pure _ (fun _=>run_fa for0) (hd_do _ (fun W h=>orr_s h.2) ?_));refine hd_pure (.string ⟨((s.drop (d.2.1.toNat+1)).take (i - (d.2.1.toNat+1))).toArray⟩) (fun Wx=>?_) ?_
   ·have:=run_s_slice (P:=prog) (w:=Wx) (T:=9) (a:=s) (k:=.i64) (k':=.i64) (lo:=d.2.1+1) (hi:=(i:Int)) Tryz.underlying9 (by omega) (by omega) (by omega);rw[show (d.2.1+1).toNat=d.2.1.toNat+1 by omega,Int.toNat_natCast] at this;exact this
   refine o_obs1 d.1 hx.keys.one hx.kids.one ho fun nb w8 ho=>⟨⟨ho.at_ 1 rfl,ho.at_ 3 rfl⟩,?_⟩;refine hd_pure _ (fun _=>run_opb _ rfl _) ?_;refine op_put (o':=⟨Cs.biW,[d.1],(s.drop (d.2.1.toNat+1)).take (i - (d.2.1.toNat+1))⟩) (va':=.slice (some ⟨nb,0,none⟩) 1 1) 2 rfl ho rfl fun w9 ho=>?_;refine ret_v1 (rv_cell (ho.agg 2 rfl aggOp)) ?_;have ho:=ho.toU 6 1 1 (by rfl) (by omega) (by omega);obtain⟨N2,hle2,hrow,ho⟩:=OwnS.freezeU (L:=[obE b3 d.1 xk xc,opE b2 ⟨Cs.biW,[d.1],(s.drop (d.2.1.toNat+1)).take (i - (d.2.1.toNat+1))⟩ (.slice (some ⟨nb,0,none⟩) 1 1),orE b s ((i:Int)+3) vl,.mem N]) ho 3 rfl;subst hR;have ho:OwnS S0 w w9 ([obE b3 d.1 xk xc,opE b2 ⟨Cs.biW,[d.1],(s.drop (d.2.1.toNat+1)).take (i - (d.2.1.toNat+1))⟩ (.slice (some ⟨nb,0,none⟩) 1 1)]++([orE b s ((i:Int)+3) vl,.mem N2]++[])):=ho;exact hret rfl _ N2 w9 _ ho.front (hle.trans hle2) ⟨_,_,rfl,hrow,ovs_1 (hx.ov.le hle2)⟩
 ·rw[if_pos (by omega)] at hf;rw[hf] at hR;simp only at hR;simp only[decide_eq_false hlt,i_f,rs,fa_or0,or_s (ho.at_ 2 rfl),s_len Tryz.underlying9];refine c_pan (opfail_pan _ _ w6) fun c w' ⟨hc,hw⟩=>?_;subst hc;subst hw;exact fall (L:=[_,_]) ⟨s.length,4⟩ ho hle hR.symm (show (4:Int)≠0 by decide)
theorem run_opa {W:World}{PK:PKT}{K:VWP}(n:List UInt8)(va:Value)(ha:va.oneCell'=true):DoX prog (mBuild 44 #[(0,.string ⟨n.toArray⟩),(1,va)]) W PK K=K (.agg #[.string ⟨n.toArray⟩,va,.string ⟨#[]⟩]) W:=by
 cases va<;>first|(cases ha;done)|exact do_eq (by kernel_rfl)
theorem opoperator_ret (b:Nat)(s:List UInt8)(a:Int)(p:Option Addr)(n cap:Nat)(t:Lx.Tok)(args:List Ob)(va:Value)(cs:List Value)(M:Mem)(w:World)(h0:0≤t.t)(h1:t.t≤s.length)(hs:s.length≤1000000000)
  (hsl:SlA M.A M.w va 6 args.length cs) (hall:OVs M.A M.w cs args) (hr:(Ent.two (orE b s a (.slice p n cap)) (.mem M)).is w) :
  Lent prog 39 #[rdP b,tokV t,va] (orE b s a (.slice p n cap)) M w ((Cs.operator s t n args).2.2.e=0) (orE b s (Cs.operator s t n args).2.1 (.slice p n cap)) (fun v N=>OpOV N v (Cs.operator s t n args).1) [fltP (Cs.operator s t n args).2.2.at_ (Cs.operator s t n args).2.2.e]:=by
 generalize hR:Cs.operator s t n args=R;refine lent_of (fun K ho hret hpan=>S_ops_reader_operator_ok ?_) hr;unfold S_ops_reader_operator;refine o_tkb t ho fun b4 w1 ho=>?_;refine o_opa ho fun b6 w2 ho=>?_;generalize hS0:(Ent.two (orE b s a (.slice p n cap)) (.mem M)).blk=S0 at *;have fall:∀{W:World} {L:List Ent} {e2:Ent} {N:Mem} (f:Cs.Flt),OwnS S0 w W (L++([e2,.mem N]++[]))→M.le N→R=(Cs.op0,0,f)→f.e≠0→pk K [fltP f.at_ f.e] W:=by
  intro W L e2 N f ho hle he h0;subst he;exact hpan h0 e2 N W _ ho.front hle
 unfold Cs.operator at hR;have ho:OwnS S0 w w2 [opE b6 Cs.op0 nilS,tokE b4 t,orE b s a (.slice p n cap),.mem M]:=ho;refine quiet (q_do _ (fun _=>run_nil) (q_do _ (fun _=>run_fa for2) (q_at (.slice p n cap) (fun W hb=>run_load_cell nSlOp (cells_cell (T:=49) (cs:=orC s a (.slice p n cap)) (i:=2) ((ho.grow hb).at_ 2 rfl) rfl)) ?_)));refine q_do _ (fun _=>run_len_sl Tryz.underlying23) (q_lss ?_);refine q_do _ (fun _=>run_fa ft1) (q_at (.int .i64 t.a) (fun W hb=>run_load_cell nInt5 ((ho.grow hb).cell 1 rfl 1 rfl)) ?_);intro w3 hb;have ho:=ho.grow hb;refine c_opmust (fun hn=>?_) fun hn=>?_
 rotate_left
 ·rw[if_pos (by have:=of_decide_eq_false hn;omega)] at hR;exact fall (L:=[_,_]) ⟨t.a,6⟩ ho M.le_refl hR.symm (show (6:Int)≠0 by decide)
 rw[if_neg (by have:=of_decide_eq_true hn;omega)] at hR;rw[fa_t2,tk_t ho 1 rfl];simp only[rs,fa_or1];refine or_put 2 ho rfl fun w4 ho=>?_;have ho:OwnS S0 w w4 [opE b6 Cs.op0 nilS,tokE b4 t,orE b s t.t (.slice p n cap),.mem M]:=ho;refine join fun J hJ=>?_;rw[fa_t4',tk_s ho 1 rfl];simp only[rs];by_cases hb:t.s=[66,73]
 ·rw[if_pos (show t.s=Cs.biW from hb)] at hR;simp only[decide_eq_true hb,i_t];rw[sl_len Tryz.underlying40 (hsl.now (ho.hasM 3 rfl))];simp only[rs,fa_t1,tk_a ho 1 rfl];refine c_opmust (fun hl=>?_) fun hl=>?_
  rotate_left
  ·rw[if_pos (by intro e;rw[e] at hl;simp at hl)] at hR;exact fall (L:=[_,_]) ⟨t.a,3⟩ ho M.le_refl hR.symm (show (3:Int)≠0 by decide)
  have hl:args=[]:=by
   have:=of_decide_eq_true hl;exact List.length_eq_zero_iff.1 (by omega)
  rw[if_neg (by simp[hl])] at hR;refine c_rmS [_,_] ho (fun h=>opimage_ret b s t.t _ M w4 h0 h1 hs h) (fun v N w5 hok hle hv ho=>?_) fun e2 w5 hn ho=>?_
  rotate_left
  ·subst hR;exact hpan hn e2 M w5 _ (OwnS.front (A:=[_,_]) (B:=[_,_]) (C:=[]) ho) M.le_refl
  obtain⟨va',acs,rfl,hx⟩:=hv;have ho:OwnS S0 w w5 [opE b6 Cs.op0 nilS,tokE b4 t,orE b s (Cs.image s t.t).2.1 (.slice p n cap),.mem N]:=ho;refine op_put (o':=(Cs.image s t.t).1) 0 hx.one ho rfl fun w6 ho=>?_;refine ret_v1 (rv_cell (ho.agg 0 rfl aggOp)) ?_;subst hR;exact hret hok _ N w6 _ (OwnS.front (A:=[_,_]) (B:=[_,_]) (C:=[]) ho) hle ⟨va',acs,rfl,hx⟩
 ·rw[if_neg (show ¬t.s=Cs.biW from hb)] at hR;simp only[decide_eq_false hb,i_f];refine join fun J3 hJ3=>?_;have bad:t.s=Cs.idW∨t.s=Cs.eiW∨t.s=Cs.rW→J3 [.bool true] w4:=by
   intro h;rw[if_pos h] at hR;refine hJ3 _ _ fun _=>?_;simp only[S_ops_reader_operator_0,gd,i_t,fa_t1,tk_a ho 1 rfl];refine c_pan (opfail_pan _ _ w4) fun c w' ⟨hc,hw⟩=>?_;subst hc;subst hw;exact fall (L:=[_,_]) ⟨t.a,3⟩ ho M.le_refl hR.symm (show (3:Int)≠0 by decide)
  by_cases g1:t.s=[73,68]
  ·simp only[decide_eq_true g1,i_t];exact bad (.inl g1)
  simp only[decide_eq_false g1,i_f];by_cases g2:t.s=[69,73]
  ·simp only[decide_eq_true g2,i_t];exact bad (.inr (.inl g2))
  simp only[decide_eq_false g2,i_f];by_cases g3:t.s=[82]
  ·simp only[decide_eq_true g3];exact bad (.inr (.inr g3))
  simp only[decide_eq_false g3];refine hJ3 _ _ fun _=>?_;simp only[S_ops_reader_operator_0,gd,i_f];refine hJ _ _ fun _=>?_;unfold S_ops_reader_operator_1;rw[if_neg (by
   rintro (h|h|h)
   ·exact g1 h
   ·exact g2 h
   ·exact g3 h)] at hR
  rw[fa_t4',tk_s ho 1 rfl,run_opa _ _ hsl.one];refine op_put (o':=⟨t.s,args,[]⟩) (va':=va) 0 hsl.one ho rfl fun w6 ho=>?_;refine ret_v1 (rv_cell (ho.agg 0 rfl aggOp)) ?_;subst hR;exact hret rfl _ M w6 _ (OwnS.front (A:=[_,_]) (B:=[_,_]) (C:=[]) ho) M.le_refl ⟨va,cs,rfl,hsl,hall⟩
end
section
open Eng Go.RowKit
theorem elOp:elB prog 44 3 56=true:=by kernel_rfl
section
variable {w:World}{PK:PKT}{K:VWP}{S:Nat→Prop}{w0:World}{L:List Ent}
theorem o_apP (i:Nat){v v2:Value}{n m:Nat}{xs news:List Value}{cb:Array Bool}(ho:OwnS S w0 w L)(hi:L[i]?=some (.urow 44 3 v n xs))(hs:Sl w v2 3 m news)(h1:∀u∈news,u.oneCell'=true)(hb:n+m≤1000000000000)
  (k:∀v' w',OwnS S w0 w' (L.set i (.urow 44 3 v' (n+m) (xs++news)))→K v' w'):DoX prog (mB .append #[23,23] 23 cb #[v,v2]) w PK K:=
 o_appendU i Tryz.underlying23 elOp (by decide) ho hi hs h1 (by omega) (by omega) k
theorem o_ops1 (o:Cop){va:Value}(ha:va.oneCell'=true)(ho:OwnS S w0 w L)(k:∀b w',OwnS S w0 w' (opE b o va::L)→K (.slice (some ⟨b,0,none⟩) 1 1) w'):DoX prog (mBuildS 23 1 #[(0,opV o va)]) w PK K:=by
 cases va<;>first|(cases ha;done)|exact o_new (fun b=>.slice (some ⟨b,0,none⟩) 1 1) (opC o _) 44 (fun _=>by kernel_rfl) ho k
end
theorem opread1_plain:plainB prog 35=true:=by kernel_rfl
theorem opread_ret (b:Nat)(s:List UInt8)(M:Mem)(w:World)(hs:s.length≤1000000000)(hr:(Ent.two (orE b s 0 nilS) (.mem M)).is w) :
  Ret prog 16 #[rdP b] w (fun v w'=>v=fltV ((Cs.read s).2.at_,(Cs.read s).2.e)∧∃(N:Mem) (e2:Ent),M.le N∧Turn (.two (orE b s 0 nilS) (.mem M)) (.two e2 (.mem N)) w w' ∧
   ((Cs.read s).2.e=0→∃a vl,e2=orE b s a vl∧OpsV N.A N.w vl (Cs.read s).1)):=by
 generalize hR:Cs.read s=R;refine ret_of fun K hK=>S_ops_reader_read_ok ?_;unfold S_ops_reader_read;have ho:OwnS (Ent.two (orE b s 0 nilS) (.mem M)).blk w w [.two (orE b s 0 nilS) (.mem M)]:=OwnS.lend hr;generalize hS0:(Ent.two (orE b s 0 nilS) (.mem M)).blk=S0 at ho;refine o_flt ho.split fun b2 w1 ho=>?_;rw[m_func];refine⟨_,rfl,?_⟩;have out:∀{W:World} {L:List Ent} {e2:Ent} {N:Mem} {v:Value},OwnS S0 w W (L++([e2,.mem N]++[]))→M.le N→v=fltV (R.2.at_,R.2.e)→(R.2.e=0→∃a vl,e2=orE b s a vl∧OpsV N.A N.w vl R.1)→K (.returned v) W:=by
  intro W L e2 N v ho hle hv he;have ho:=OwnS.pair ho.front;subst hS0;exact hK _ _ ⟨hv,N,e2,hle,OwnS.back ho,he⟩
 have fall:∀{W:World} {L:List Ent} {e2:Ent} {N:Mem} (f:Cs.Flt),OwnS S0 w W (L++([fltE b2 (0,0),e2,.mem N]++[]))→M.le N→R=([],f)→f.e≠0 →
   S_ops_reader_read_p0 { target:=.fn (.func 35) #[.pointer (some ⟨b2,0,none⟩)],args:=#[]++#[] } (.pointer (some ⟨b2,0,none⟩)) K [fltP f.at_ f.e] W:=by
  intro W L e2 N f ho hle he h0;have ho:=ho.front;show pd prog _ K _ [fltP f.at_ f.e] W;unfold pd;refine leave_fn (by simp) opread1_plain (S_ops_reader_read_1_dok (t0:=.pointer (some ⟨b2,0,none⟩)) ?_);simp only[S_ops_reader_read_1,recV,recM,fltP,Eng.e_some Tryz.underlying20,rs,t_hit nfF,ex,i_t,i_f];refine o_flt ho fun b5 w5 ho=>?_;refine flt_put (g:=(f.at_,f.e)) 0 ho rfl fun w6 ho=>?_;have ho:OwnS S0 w w6 (fltE b5 (f.at_,f.e)::fltE b2 (0,0)::e2::.mem N::(L++[])):=ho;rw[l_at (ho.agg 0 rfl aggFlt)];refine flt_put (f:=(0,0)) (g:=(f.at_,f.e)) 1 ho rfl fun w7 ho=>?_;have ho:OwnS S0 w w7 ([fltE b5 (f.at_,f.e),fltE b2 (f.at_,f.e)]++([e2,.mem N]++(L++[]))):=ho;refine ret_v1 (rv_cell (ho.agg 1 rfl aggFlt)) ?_;have hlast:=ho;have ho:=OwnS.pair ho.front;subst hS0;exact hK _ _ ⟨by rw[he];rfl,N,e2,hle,OwnS.back ho,fun h=>by rw[he] at h;exact absurd h h0⟩
 have ho:=(ho.nilU 44 3).nilU 42 6;refine loop (fun vs w'=>∃(a':Int) (m:Nat) (l:List Cop) (args:List Ob) (va vl:Value) (oc ac:List Value) (N:Mem),vs=[va]∧0≤a'∧a'≤s.length∧(s.length:Int)+1≤a'+m∧(l.length:Int)≤a'∧args.length≤32 ∧
   Cs.readG s m a' l args=R∧M.le N∧PVs N.A N.w oc l∧OVs N.A N.w ac args ∧
   OwnS S0 w w' [.urow 42 6 va args.length ac,.urow 44 3 vl l.length oc,fltE b2 (0,0),orE b s a' vl,.mem N]) (fun _ w=>s.length - rdAt b w)
  ⟨0,s.length+1,[],[],nilS,nilS,[],[],M,rfl,by omega,by omega,by omega,by simp,by simp,hR,M.le_refl,.nil,OVs.nil,ho⟩ ?_
 clear ho hR;rintro vs w4 ⟨a',m,l,args,va,vl,oc,ac,N,rfl,ha0,ha1,hml,hla,hal,hdict,hle,hpv,hov,ho⟩ _;simp only[S_ops_reader_read_0,gd];obtain⟨m,rfl⟩:∃k,m=k+1:=⟨m - 1,by omega⟩;have hat:rdAt b w4=a'.toNat:=orAt_is (ho.at_ 3 rfl);rw[Cs.readG] at hdict;have hbd:=@Lx.next_bd s a';have hge:=Lx.skip_ge s a'.toNat;have hopb:=@Cs.operator_bd s a' l.length args;have hob:(Ps.object s a').2.2=0→a' < (Ps.object s a').2.1∧(Ps.object s a').2.1≤s.length:=fun h=>Bd.object_bd h;refine c_oppeek ho (ho.at_ 3 rfl) (by omega) (fun e1 w5 ho=>?_) fun e1 w5 ho=>?_
 rotate_left
 ·rw[if_pos e1] at hdict;exact fall (L:=[_,_]) _ ho hle hdict.symm e1
 rw[if_neg (by simp[e1])] at hdict;generalize Lx.next s a'=x at *
 refine o_tok ho fun b4 w6 ho=>?_;refine tk_put 0 ho rfl fun w7 ho=>?_;have ho:OwnS S0 w w7 [tokE b4 x.1,.urow 42 6 va args.length ac,.urow 44 3 vl l.length oc,fltE b2 (0,0),orE b s a' vl,.mem N]:=ho;rw[fa_t0,tk_k ho 0 rfl];simp only[rs];by_cases e2:x.1.k=0
 ·rw[if_pos e2] at hdict;simp only[decide_eq_true e2,i_t];rw[sl_len Tryz.underlying40 (ho.slU 1 rfl)];simp only[rs,fa_or0,or_s (ho.at_ 4 rfl),s_len Tryz.underlying9];refine c_opmust (fun hl=>?_) fun hl=>?_
  rotate_left
  ·rw[if_pos (by intro e;rw[e] at hl;simp at hl)] at hdict;exact fall (L:=[_,_,_]) ⟨s.length,4⟩ ho hle hdict.symm (show (4:Int)≠0 by decide)
  have hl:args=[]:=List.length_eq_zero_iff.1 (by have:=of_decide_eq_true hl;omega);rw[if_neg (by simp[hl])] at hdict;have hb0:∀{PK:PKT} {K:VWP},DoX prog (mBuild 26 #[]) w7 PK K=K (fltV (0,0)) w7:=do_eq (by kernel_rfl);rw[hb0];refine flt_put (f:=(0,0)) (g:=(0,0)) 3 ho rfl fun w8 ho=>?_;refine leave_fn (by simp) opread1_plain (S_ops_reader_read_1_dok (t0:=.pointer (some ⟨b2,0,none⟩)) ?_);simp only[S_ops_reader_read_1,recV,recM,Eng.e_nil Tryz.underlying20,rs];refine ret_v1 (rv_cell (ho.agg 3 rfl aggFlt)) ?_;have ho:OwnS S0 w w8 ([tokE b4 x.1,.urow 42 6 va args.length ac]++([.urow 44 3 vl l.length oc]++[fltE b2 (0,0),orE b s a' vl,.mem N])):=ho;have ho:OwnS S0 w w8 (.urow 44 3 vl l.length oc::[tokE b4 x.1,.urow 42 6 va args.length ac,fltE b2 (0,0),orE b s a' vl,.mem N]):=ho.front;obtain⟨N2,hle2,hrow,ho⟩:=OwnS.freezeU (L:=[tokE b4 x.1,.urow 42 6 va args.length ac,fltE b2 (0,0),orE b s a' vl,.mem N]) ho 4 rfl;subst hdict;exact out (L:=[_,_,_]) ho (hle.trans hle2) rfl fun _=>⟨a',vl,rfl,oc,hrow,PVs.le hle2 hpv⟩
 rw[if_neg e2] at hdict;have hbd:=hbd e1 e2;have hopb:=fun h=>hopb e1 e2 h;simp only[decide_eq_false e2,i_f,fa_t0,tk_k ho 0 rfl,rs];by_cases e5:x.1.k=5∧Cs.constant x.1.s=false
 ·rw[if_pos e5] at hdict;simp only[decide_eq_true e5.1,rs,fa_t4',tk_s ho 0 rfl];refine c_eq (opconst_ret x.1.s w7) ?_;simp only[e5.2,rs,Bool.not_false];have ho:OwnS S0 w w7 ([tokE b4 x.1]++([.urow 42 6 va args.length ac]++[.urow 44 3 vl l.length oc,fltE b2 (0,0),orE b s a' vl,.mem N])):=ho;have ho:OwnS S0 w w7 (.urow 42 6 va args.length ac::[tokE b4 x.1,.urow 44 3 vl l.length oc,fltE b2 (0,0),orE b s a' vl,.mem N]):=ho.front;obtain⟨N2,hle2,hrow,ho⟩:=OwnS.freezeU (L:=[tokE b4 x.1,.urow 44 3 vl l.length oc,fltE b2 (0,0),orE b s a' vl,.mem N]) ho 4 rfl;have ho:OwnS S0 w w7 [tokE b4 x.1,.urow 44 3 vl l.length oc,fltE b2 (0,0),orE b s a' vl,.mem N2]:=ho;obtain⟨p,cap,rfl⟩:∃p cap,vl=.slice p l.length cap:=by
   obtain⟨_,p,cap,e,_⟩:=ho.slU 1 rfl;exact⟨p,cap,e⟩
  have ho:=ho.drew;refine⟨fun W=>(∃a2,(orE b s a2 (.slice p l.length cap)).is W)∧(tokE b4 x.1).is W,⟨⟨_,ho.at_ 3 rfl⟩,ho.at_ 0 rfl⟩,?_⟩;refine hd_pure _ (fun _=>run_nil) (hd_pure _ (fun _=>run_fa for2) (hd_do (.slice p l.length cap) (fun W h=>?_) ?_))
  ·obtain⟨a2,h2⟩:=h.1;exact run_load_cell nSlOp (cells_cell (T:=49) (cs:=orC s a2 (.slice p l.length cap)) (i:=2) h2 rfl)
  refine hd_do (tokV x.1) (fun W h=>run_load_at (AtV.agg aggTok (cs:=tokC x.1) rfl fun j u hj=>by rw[Nat.zero_add];exact cells_cell (T:=53) h.2 hj)) ?_;refine c_rmS [_,_,_] ho (fun h=>opoperator_ret b s a' p l.length cap x.1 args va ac N2 _ (by omega) (by omega) hs hrow (hov.le hle2) h) (fun v N3 w9 hok hle3 hv ho=>?_) fun e2 w9 hn ho=>?_
  rotate_left
  ·rw[if_pos hn] at hdict;exact fun _ _ _ _ _ _ _ _ _ _=>fall (L:=[_,_]) _ ho (hle.trans hle2) hdict.symm hn
  rw[if_neg (by simp[hok])] at hdict;have hopb:=hopb hok;generalize Cs.operator s x.1 l.length args=y at *;have ho:OwnS S0 w w9 [tokE b4 x.1,.urow 44 3 (.slice p l.length cap) l.length oc,fltE b2 (0,0),orE b s y.2.1 (.slice p l.length cap),.mem N3]:=ho;refine⟨⟨⟨_,ho.at_ 3 rfl⟩,ho.at_ 0 rfl⟩,?_⟩;obtain⟨va',acs,rfl,hx⟩:=hv;refine o_ops1 y.1 hx.one ho fun nb w10 ho=>⟨⟨⟨_,ho.at_ 4 rfl⟩,ho.at_ 1 rfl⟩,?_⟩;refine o_apP 2 ho rfl (ho.sl 0 rfl 3 1 1 rfl) (opC_one _ hx.one) (by omega) fun vl' w11 ho=>?_;have hvl':=urow_one (ho.at_ 2 rfl);refine⟨⟨⟨_,ho.at_ 4 rfl⟩,ho.at_ 1 rfl⟩,?_⟩;refine hd_pure _ (fun _=>run_nil) (hd_pure _ (fun _=>run_fa for2) ?_);refine o_store 4 ho rfl (by kernel_rfl) hvl' (show 2 < 3 by omega) fun w12 ho=>?_;have ho:=ho.tail.tail;have ho:OwnS S0 w w12 [.urow 44 3 vl' (l++[y.1]).length (oc++opC y.1 va'),fltE b2 (0,0),orE b s y.2.1 vl',.mem N3]:=by
   rw[List.length_append,List.length_singleton];exact ho
  have ho:=ho.nilU 42 6;refine AtX.mk rfl (nextX ⟨y.2.1,m,l++[y.1],[],nilS,vl',oc++opC y.1 va',[],N3,rfl,by omega,by omega,by omega,by simp;omega,by simp,hdict,(hle.trans hle2).trans hle3,Rws.snoc ⟨va',acs,rfl,hx⟩ (PVs.le (hle2.trans hle3) hpv),OVs.nil,ho⟩ ?_);have hat2:rdAt b w12=y.2.1.toNat:=orAt_is (ho.at_ 3 rfl);show s.length - rdAt b w12 < s.length - rdAt b w4;rw[hat,hat2];exact meas ha0 hopb.2.1 hopb.2.2
 ·rw[if_neg e5] at hdict;have hsel:x.1.k=5→Cs.constant x.1.s=true:=by
   intro h5;cases hc:Cs.constant x.1.s with
  |true=>rfl
  |false=>exact absurd ⟨h5,hc⟩ e5
  have rest:OwnS S0 w w7 [tokE b4 x.1,.urow 42 6 va args.length ac,.urow 44 3 vl l.length oc,fltE b2 (0,0),orE b s a' vl,.mem N] →
    ∀{D:Deferred} {Z:List Value→World→Prop},D={ target:=.fn (.func 35) #[.pointer (some ⟨b2,0,none⟩)],args:=#[]++#[] }→(∀vs w',NextX (fun vs w'=>∃(a':Int) (m:Nat) (l:List Cop) (args:List Ob) (va vl:Value) (oc ac:List Value) (N:Mem),vs=[va]∧0≤a'∧a'≤s.length∧(s.length:Int)+1≤a'+m∧(l.length:Int)≤a'∧args.length≤32 ∧
   Cs.readG s m a' l args=R∧M.le N∧PVs N.A N.w oc l∧OVs N.A N.w ac args ∧
   OwnS S0 w w' [.urow 42 6 va args.length ac,.urow 44 3 vl l.length oc,fltE b2 (0,0),orE b s a' vl,.mem N]) (fun _ w=>s.length - rdAt b w) [va] w4 vs w'→Z vs w') →
    DoX prog (mLoad 53 (.pointer (some ⟨b4,0,none⟩))) w7 (S_ops_reader_read_p0 D (.pointer (some ⟨b2,0,none⟩)) K) fun t10 w=>
 CallX prog 40 #[rdP b,t10] w (S_ops_reader_read_p0 D (.pointer (some ⟨b2,0,none⟩)) K) fun t11 w=>
 DoX prog (mAlloc 42) w (S_ops_reader_read_p0 D (.pointer (some ⟨b2,0,none⟩)) K) fun t5 w=>
 DoX prog (mStore 42 t5 t11) w (S_ops_reader_read_p0 D (.pointer (some ⟨b2,0,none⟩)) K) fun _ w=>
 DoX prog (mB .len #[40] 3 #[false] #[va]) w (S_ops_reader_read_p0 D (.pointer (some ⟨b2,0,none⟩)) K) fun t13 w=>
 DoX prog (mBin .lss 3 t13 (.int .i64 32)) w (S_ops_reader_read_p0 D (.pointer (some ⟨b2,0,none⟩)) K) fun t14 w=>
 DoX prog (mFA 53 (.pointer (some ⟨b4,0,none⟩)) 1) w (S_ops_reader_read_p0 D (.pointer (some ⟨b2,0,none⟩)) K) fun t15 w=>
 DoX prog (mLoad 3 t15) w (S_ops_reader_read_p0 D (.pointer (some ⟨b2,0,none⟩)) K) fun t16 w=>
 CallX prog 37 #[t14,t16,(.int .i64 6)] w (S_ops_reader_read_p0 D (.pointer (some ⟨b2,0,none⟩)) K) fun t17 w=>
 DoX prog (mLoad 42 t5) w (S_ops_reader_read_p0 D (.pointer (some ⟨b2,0,none⟩)) K) fun t19 w=>
 DoX prog (mBuildS 40 1 #[(0,t19)]) w (S_ops_reader_read_p0 D (.pointer (some ⟨b2,0,none⟩)) K) fun t20 w=>
 DoX prog (mB .append #[40,40] 40 #[false,false] #[va,t20]) w (S_ops_reader_read_p0 D (.pointer (some ⟨b2,0,none⟩)) K) fun t21 w=>
 AtX [D] [D] (Z [t21] w):=by
   intro ho D Z hD hZ;subst hD;rw[tk_v ho 0 rfl];refine c_rmS [_,_,_,_] ho (fun h=>opobject_ret b s a' vl x.1 N w7 hs h) (fun v N2 w9 hok hle2 hv ho=>?_) fun e2 w9 hn ho=>?_
   rotate_left
   ·by_cases g1:(Ps.object s a').2.2≠0
    ·rw[if_pos g1] at hdict;have:=fall (L:=[_,_,_]) _ ho hle hdict.symm g1;unfold obBad;rw[if_pos g1];exact this
    ·rw[if_neg g1] at hdict;have g2:Cs.refers (Ps.object s a').1=true:=by
      cases hc:Cs.refers (Ps.object s a').1 with
     |true=>rfl
     |false=>exact absurd ⟨Classical.not_not.1 g1,hc⟩ hn
     rw[if_pos g2] at hdict;have:=fall (L:=[_,_,_]) ⟨x.1.a,3⟩ ho hle hdict.symm (show (3:Int)≠0 by decide);unfold obBad;rw[if_neg g1];exact this
   obtain⟨g1,g2⟩:=hok;rw[if_neg (by simp[g1]),if_neg (by simp[g2])] at hdict;have hob:=hob g1;generalize Ps.object s a'=e at *;have ho:OwnS S0 w w9 [tokE b4 x.1,.urow 42 6 va args.length ac,.urow 44 3 vl l.length oc,fltE b2 (0,0),orE b s e.2.1 vl,.mem N2]:=ho;obtain⟨xk,xc,xcs,rfl,hx⟩:=hv.open;refine o_oba ho fun b5 w10 ho=>?_;refine ob_put (o':=e.1) 0 hx.keys.one hx.kids.one ho rfl fun w11 ho=>?_;have ho:OwnS S0 w w11 [obE b5 e.1 xk xc,tokE b4 x.1,.urow 42 6 va args.length ac,.urow 44 3 vl l.length oc,fltE b2 (0,0),orE b s e.2.1 vl,.mem N2]:=ho;rw[sl_len Tryz.underlying40 (ho.slU 2 rfl)];simp only[rs,fa_t1,tk_a ho 1 rfl];refine c_opmust (fun g3=>?_) fun g3=>?_
   rotate_left
   ·have g3:=of_decide_eq_false g3;rw[if_pos (by omega)] at hdict;exact fall (L:=[_,_,_,_]) ⟨x.1.a,6⟩ ho (hle.trans hle2) hdict.symm (show (6:Int)≠0 by decide)
   have g3:=of_decide_eq_true g3;rw[if_neg (by omega)] at hdict;rw[ob_v ho 0 rfl];refine o_obs1 _ hx.keys.one hx.kids.one ho fun nb w12 ho=>?_;refine o_apO 3 ho rfl (ho.sl 0 rfl 6 1 1 rfl) (obC_one _ hx.keys.one hx.kids.one) (by omega) fun va' w13 ho=>?_;have ho:=ho.tail.tail.tail;have ho:OwnS S0 w w13 [.urow 42 6 va' (args++[e.1]).length (ac++obC e.1 xk xc),.urow 44 3 vl l.length oc,fltE b2 (0,0),orE b s e.2.1 vl,.mem N2]:=by
    rw[List.length_append,List.length_singleton];exact ho
   refine AtX.mk rfl (hZ _ _ (nextX ⟨e.2.1,m,l,args++[e.1],va',vl,oc,ac++obC e.1 xk xc,N2,rfl,by omega,hob.2,by omega,by omega,by simp;omega,hdict,hle.trans hle2,PVs.le hle2 hpv,ovs_app (hov.le hle2) (ovs_1 hx.ov),ho⟩ ?_));have hat2:rdAt b w13=e.2.1.toNat:=orAt_is (ho.at_ 3 rfl);show s.length - rdAt b w13 < s.length - rdAt b w4;rw[hat,hat2];exact meas ha0 hob.1 hob.2
  by_cases h5:x.1.k=5
  ·simp only[decide_eq_true h5,rs,fa_t4',tk_s ho 0 rfl];refine c_eq (opconst_ret x.1.s w7) ?_;simp only[hsel h5,rs,Bool.not_true];have:=rest ho rfl (fun _ _ h=>h)
   try simp only[rs] at this
   exact this
  ·simp only[decide_eq_false h5,rs,g_un];have:=rest ho rfl (fun _ _ h=>h)
   try simp only[rs] at this
   exact this
theorem opRead_ret (s:List UInt8)(M:Mem)(w:World)(hs:s.length≤1000000000)(hM:M.has w) :
  RetM prog 8 #[.string ⟨s.toArray⟩] M w (fun v N=>∃vl,v=.tuple #[vl,fltV ((Cs.read s).2.at_,(Cs.read s).2.e)]∧OpsV N.A N.w vl (Cs.read s).1):=by
 refine retM_of hM fun K hK=>S_ops_Read_ok ?_;unfold S_ops_Read;refine o_flt (OwnS.memS hM) fun b3 w1 ho=>?_;have hb1:∀{PK:PKT} {K:VWP},DoX prog (mBuild 49 #[(0,.string ⟨s.toArray⟩)]) w1 PK K=K (.agg (orC s 0 nilS).toArray) w1:=do_eq (by kernel_rfl);rw[hb1];refine o_new (fun b=>.pointer (some ⟨b,0,none⟩)) (orC s 0 nilS) 49 (fun _=>by kernel_rfl) ho fun b8 w2 ho=>?_;have ho:OwnS M.A w w2 ([orE b8 s 0 nilS]++([fltE b3 (0,0)]++([.mem M]++[]))):=ho;have ho:OwnS M.A w w2 ([orE b8 s 0 nilS]++([.mem M]++([fltE b3 (0,0)]))):=ho.perm (List.Perm.append_left _ (List.Perm.swap _ _ _));have ho:=OwnS.pair ho;refine c_ret (opread_ret b8 s M w2 hs (ho.at_ 0 rfl)) ?_;rintro _ w3 ⟨rfl,N,e2,hle,ht,hok⟩;have ho:=(ho.turn 0 rfl ht).split;have ho:OwnS M.A w w3 [e2,.mem N,fltE b3 (0,0)]:=ho;refine o_flt ho fun b5 w4 ho=>?_;refine flt_put (g:=((Cs.read s).2.at_,(Cs.read s).2.e)) 0 ho rfl fun w5 ho=>?_;have ho:OwnS M.A w w5 [fltE b5 ((Cs.read s).2.at_,(Cs.read s).2.e),e2,.mem N,fltE b3 (0,0)]:=ho;have fe:∀{PK:PKT} {K:VWP},DoX prog (mFA 26 (.pointer (some ⟨b5,0,none⟩)) 1) w5 PK K=K (.pointer (some ⟨b5,1,none⟩)) w5:=f_addr (show fOff prog 26 1=some 1 by kernel_rfl);rw[fe,l_cell nErr5 (ho.cell 0 rfl 1 rfl)];simp only[rs];by_cases hz:(Cs.read s).2.e=0
 ·obtain⟨a,vl,rfl,hvl⟩:=hok hz;simp only[hz,ne_eq,not_true_eq_false,decide_false,i_f,fa_or2,or_l (ho.at_ 1 rfl)];have hb0:∀{PK:PKT} {K:VWP},DoX prog (mBuild 26 #[]) w5 PK K=K (fltV (0,0)) w5:=do_eq (by kernel_rfl);rw[hb0];refine flt_put (f:=(0,0)) (g:=(0,0)) 3 ho rfl fun w6 ho=>?_;refine ret_v2 rv_val (rv_cell (ho.agg 3 rfl aggFlt)) (hK _ _ N _ 2 ho rfl hle ⟨vl,?_,hvl⟩);rw[Cs.read_ok hz];rfl
 ·simp only[hz,ne_eq,not_false_eq_true,decide_true,i_t];refine quiet (q_at (fltV ((Cs.read s).2.at_,(Cs.read s).2.e)) (fun W hb=>run_load_at ((ho.grow hb).agg 0 rfl aggFlt)) ?_);intro w6 hb;have ho:=ho.grow hb;refine flt_put (f:=(0,0)) (g:=((Cs.read s).2.at_,(Cs.read s).2.e)) 3 ho rfl fun w7 ho=>?_;refine ret_v2 rv_val (rv_cell (ho.agg 3 rfl aggFlt)) (hK _ _ N _ 2 ho rfl hle ⟨nilS,rfl,?_⟩);rw[Cs.read_err hz];exact OpsV.nil _ _
end
end Go.Proofs.YtoofficgclghoaaGreatDoor


namespace Go.Proofs.YtoofficgclghoaaGreatDoor
section
open Eng Go.RowKit
namespace Cs
def eqc (x y:Cop):Bool:=decide (x.name=y.name)&&decide (x.data=y.data)&&Ob.eqbs x.args y.args
def eqs:List Cop→List Cop→Bool
|[],[]=>true
|x::a,y::b=>eqc x y&&eqs a b
|_,_=>false
theorem eqc_iff (x y:Cop):eqc x y=true↔x=y:=by
 unfold eqc;simp only[Bool.and_eq_true,decide_eq_true_eq,Ob.eqbs_iff];cases x;cases y;simp only[Cop.mk.injEq];exact⟨fun h=>⟨h.1.1,h.2,h.1.2⟩,fun h=>⟨⟨h.1,h.2.2⟩,h.2.1⟩⟩
theorem eqs_iff:∀a b:List Cop,eqs a b=true↔a=b
|[],[]=>by simp[eqs]
|[],_::_=>by simp[eqs]
|_::_,[]=>by simp[eqs]
|x::a,y::b=>by rw[eqs,Bool.and_eq_true,eqc_iff,eqs_iff a b];simp
theorem eqs_len:∀{a b:List Cop},a.length≠b.length→eqs a b=false:=by
 intro a b h;cases he:eqs a b with
|false=>rfl
|true=>rw[eqs_iff] at he;exact absurd (by rw[he]) h
theorem eqs_drop:∀(a b:List Cop) (i:Nat),a.length=b.length→(∀m (h1:m < a.length) (h2:m < b.length),m < i→eqc a[m] b[m]=true)→eqs a b=eqs (a.drop i) (b.drop i)
|a,b,0,_,_=>by simp
|[],[],i+1,_,_=>by simp
|x::a,y::b,i+1,hl,h=>by
  have h0:eqc x y=true:=h 0 (by simp) (by simp) (by omega);rw[eqs,h0,Bool.true_and,List.drop_succ_cons,List.drop_succ_cons];exact eqs_drop a b i (by simpa using hl) fun m h1 h2 hm=>h (m+1) (by simpa using h1) (by simpa using h2) (by omega)
|[],_::_,_+1,h,_=>by simp at h
|_::_,[],_+1,h,_=>by simp at h
theorem wts_take:∀(l:List Cop) (i:Nat),wts (l.take i)≤wts l
|[],i=>by simp[wts]
|o::l,0=>by simp[wts]
|o::l,i+1=>by
  have:=wts_take l i;rw[List.take_succ_cons,wts,wts];omega
theorem wts_get:∀(l:List Cop) (i:Nat) (hi:i < l.length),l[i].wt≤wts l
|o::l,0,_=>by rw[wts];show o.wt≤_;omega
|o::l,i+1,hi=>by
  have:=wts_get l i (by simpa using hi);rw[wts,List.getElem_cons_succ];omega
|[],_,hi=>by simp at hi
theorem wts_len:∀l:List Cop,l.length≤wts l
|[]=>by simp
|o::l=>by
  have:=wts_len l;rw[wts,List.length_cons,Cop.wt];omega
end Cs
theorem rsame43_ret (a b:List Cop)(va vb:Value)(ca cb:List Value)(M:Mem)(w:World)(hM:M.has w)(hsa:SlA M.A M.w va 3 a.length ca)(hpa:PVs M.A M.w ca a)(hsb:SlA M.A M.w vb 3 b.length cb)(hpb:PVs M.A M.w cb b)(hw:Cs.wts a≤1000000000) :
  Ret prog 10 #[va,vb] w (fun v w'=>v=.bool (Cs.eqs a b)∧Below w.heap.size w w'):=by
 refine ret_of fun K hK=>S_foliantref43_Same_ok ?_;unfold S_foliantref43_Same;have hMW:∀{W:World} {L:List Ent},Own w W L→M.has W:=fun ho=>Mem.has_below hM ho.done;have hlen:=Cs.wts_len a;rw[sl_len Tryz.underlying23 (hsa.now hM),sl_len Tryz.underlying23 (hsb.now hM)];simp only[rs];by_cases hl:(a.length:Int)=(b.length:Int)
 case neg=>
  simp only[ne_eq,hl,not_false_eq_true,decide_true,i_t];exact hK _ _ ⟨by rw[Cs.eqs_len (by omega)],Below.refl _ _⟩
 simp only[hl,ne_eq,not_true,decide_false,i_f];have hl:a.length=b.length:=by omega
 refine loop (fun vs w'=>∃(i:Nat),vs=[.int .i64 i]∧i≤a.length∧(∀m (h1:m < a.length) (h2:m < b.length),m < i→Cs.eqc a[m] b[m]=true)∧Own w w' []) (fun vs _=>a.length - n0 vs) ⟨0,rfl,by omega,fun m _ _ h=>by omega,Own.start w⟩ ?_;rintro vs w2 ⟨i,rfl,hi,hlo,ho⟩ _;simp only[S_foliantref43_Same_0,gd];rw[sl_len Tryz.underlying23 (hsa.now (hMW ho))];simp only[rs];by_cases hlt:(i:Int) < (a.length:Int)
 ·have hi1:i < a.length:=by omega
  have hi2:i < b.length:=by omega
  simp only[decide_eq_true hlt,i_t];obtain⟨xa,xcs,bo,oo,hx,hr⟩:=op_at hsa hpa hi1;obtain⟨ya,ycs,bp,op,hy,hs⟩:=op_at hsb hpb hi2;have hdr:=Cs.eqs_drop a b i hl hlo;rw[List.drop_eq_getElem_cons hi1,List.drop_eq_getElem_cons hi2,Cs.eqs] at hdr;have h3:=Cs.wts_get a i hi1;have h4:Ob.wts a[i].args≤a[i].wt:=by unfold Cop.wt;omega
  have done:∀{W:World},Own w W []→Cs.eqc a[i] b[i]=false→K (.returned (.bool false)) W:=fun ho h=>hK _ _ ⟨by rw[hdr,h];rfl,ho.done⟩;have hMW2:∀{W:World},Below w2.heap.size w2 W→M.has W:=fun hW=>hMW (ho.grow hW);refine quiet (q_at _ (fun W hW=>(hr W (hMW2 hW)).1) (q_do _ (fun _=>run_fa fo_p0) (q_at (.string ⟨a[i].name.toArray⟩) (fun W hW=>run_load_cell nStr5 ((hr W (hMW2 hW)).2 0 _ rfl)) ?_)));refine q_at _ (fun W hW=>(hs W (hMW2 hW)).1) (q_do _ (fun _=>run_fa fo_p0) (q_at (.string ⟨b[i].name.toArray⟩) (fun W hW=>run_load_cell nStr5 ((hs W (hMW2 hW)).2 0 _ rfl)) (q_sne ?_)));by_cases g1:a[i].name=b[i].name
  case neg=>
   simp only[ne_eq,g1,not_false_eq_true,decide_true,gq];refine q_pt ?_;simp only[gq];refine q_pt fun w3 hb=>?_;simp only[i_t];exact done (ho.grow hb) (by unfold Cs.eqc;rw[decide_eq_false g1];rfl)
  simp only[g1,ne_eq,not_true,decide_false,gq];refine q_at _ (fun W hW=>(hr W (hMW2 hW)).1) (q_do _ (fun _=>run_fa fo_p2) (q_at (.string ⟨a[i].data.toArray⟩) (fun W hW=>run_load_cell nStr5 ((hr W (hMW2 hW)).2 2 _ rfl)) ?_));refine q_at _ (fun W hW=>(hs W (hMW2 hW)).1) (q_do _ (fun _=>run_fa fo_p2) (q_at (.string ⟨b[i].data.toArray⟩) (fun W hW=>run_load_cell nStr5 ((hs W (hMW2 hW)).2 2 _ rfl)) (q_sne ?_)));refine q_pf ?_;by_cases g2:a[i].data=b[i].data
  case neg=>
   simp only[ne_eq,g2,not_false_eq_true,decide_true,gq];refine q_pt fun w3 hb=>?_;simp only[i_t];exact done (ho.grow hb) (by unfold Cs.eqc;rw[decide_eq_false g2];simp)
  simp only[g2,ne_eq,not_true,decide_false,gq];refine q_at _ (fun W hW=>(hr W (hMW2 hW)).1) (q_do _ (fun _=>run_fa fo_p1) (q_at xa (fun W hW=>run_load_cell nSlOb ((hr W (hMW2 hW)).2 1 _ rfl)) ?_));refine q_at _ (fun W hW=>(hs W (hMW2 hW)).1) (q_do _ (fun _=>run_fa fo_p1) (q_at ya (fun W hW=>run_load_cell nSlOb ((hs W (hMW2 hW)).2 1 _ rfl)) ?_));have inw:∀{W:World} (_:M.has W) {o:Cop} {v:Value} {cs:List Value},OpAt M.A M.w o v cs→ObAt (InW W) W (.mk 0 0 0 [] [] o.args) nilS v cs:=fun {W} hMW {o v cs} h=>
   ⟨SlA.nil _ _ _ _,⟨(h.args.kept hMW).1,(fun p l c e hn=>Mem.bd hMW ((h.args.kept hMW).2.1 p l c e hn)),(h.args.kept hMW).2.2⟩,OVs.mono (fun b hb=>Mem.bd hMW hb) _ _ (OVs.kept hMW _ _ h.all)⟩
  refine q_call (.bool (Ob.eqbs a[i].args b[i].args)) (fun W hW=>ret_grew (rlist_ret (a:=.mk 0 0 0 [] [] a[i].args) (b:=.mk 0 0 0 [] [] b[i].args) W (inw (hMW2 hW) hx) (inw (hMW2 hW) hy) (by have:=Ob.len_wts a[i].args;show a[i].args.length≤_;omega) fun k h1 h2 x y W' hx' hy'=>?_) hW) (q_do _ (fun _=>run_notO) (q_pf ?_))
  ·have hkw:=Ob.get_wts a[i].args k h1;exact rsame5_ret _ _ _ x y W' (Nat.le_refl _) (by show a[i].args[k].wt≤_;omega) hx' hy'
  intro w3 hb;have ho:=ho.grow hb;have hec:Cs.eqc a[i] b[i]=Ob.eqbs a[i].args b[i].args:=by unfold Cs.eqc;rw[decide_eq_true g1,decide_eq_true g2];rfl
  cases hq:Ob.eqbs a[i].args b[i].args with
 |false=>
   simp only[Bool.not_false,i_t];exact done ho (by rw[hec,hq])
 |true=>
   simp only[Bool.not_true,i_f,rs];rw[wrap64_id (by omega) (by omega)];refine nextX ⟨i+1,rfl,by omega,fun m h1 h2 hmi=>?_,ho⟩ (by simp[n0,RowKit.intOf];omega);rcases Nat.lt_or_ge m i with h|h
   ·exact hlo m h1 h2 h
   ·have:m=i:=by omega
    subst this;rw[hec,hq]
 ·have hil:i=a.length:=by omega
  simp only[decide_eq_false hlt,i_f];have:=Cs.eqs_drop a b i hl hlo;rw[hil,List.drop_length,hl,List.drop_length] at this;exact hK _ _ ⟨by rw[this];rfl,ho.done⟩
end
section
open Eng Go.RowKit
theorem kept_of {M:Mem}{W1 W2:World}(h1:M.has W1)(h2:M.has W2):Kept M.A W1 W2:=fun b hb=>(h2 b hb).trans (h1 b hb).symm
theorem obj_at {M:Mem}{vc:Value}{l:List Ob}{cs:List Value}(hs:SlA M.A M.w vc 6 l.length cs)(hall:OVs M.A M.w cs l){i:Nat}(hi:i < l.length) :
  ∃(xk xc:Value) (b off:Nat),OV M.A M.w (obV l[i] xk xc) l[i]∧∀W,M.has W→(mIA 40 vc (.int .i64 (i:Int))).run prog W=.ok (.value (.pointer (some ⟨b,off,none⟩))) W∧∀j u,(obC l[i] xk xc)[j]?=some u→W.cell? ⟨b,off+j,none⟩=some u:=by
 obtain⟨b,off,cap,rfl,_⟩:=sl_open hs.1 (by omega);obtain⟨a,hl,hov,hget⟩:=OVs.get l cs i hi hall;obtain⟨xk,xc,ocs,he,ha⟩:=hov.open;have he:a=obC l[i] xk xc:=by
  have:a.toArray=(obC l[i] xk xc).toArray:=by injection he
  simpa using congrArg Array.toList this
 subst he;refine⟨xk,xc,b,off+i*6,hov,fun W hW=>⟨?_,fun j u hj=>?_⟩⟩
 ·have:=run_ia (P:=prog) (T:=40) (b:=b) (off:=off) (cap:=cap) (n:=l.length) (k:=.i64) (i:=(i:Int)) (w:=W) Tryz.underlying40 szOb (by omega) (by omega);rw[Int.toNat_natCast] at this;exact this
 ·have:=Sl.cellAt (hs.now hW) (i*6+j) u (hget j u hj)
  rwa [←Nat.add_assoc] at this
theorem contains4_ret (va:Value)(l:List (List UInt8))(x:List UInt8)(w:World)(ha:Sl w va 1 l.length (strsV l))(hl:l.length≤1099511627776) :
  Ret prog 32 #[va,.string ⟨x.toArray⟩] w (fun v w'=>v=.bool (decide (x∈l))∧w=w'):=by
 refine ret_of fun K hK=>S_slices_Contains_string_string_ok ?_;unfold S_slices_Contains_string_string;refine c_eq (sindex_ret va l x w ha hl) ?_;by_cases h:l.idxOf x < l.length
 ·rw[if_pos h];simp only[rs];refine hK _ _ ⟨?_,rfl⟩;have hm:x∈l:=List.idxOf_lt_length_iff.1 h;rw[decide_eq_true hm,decide_eq_true (by omega)]
 ·rw[if_neg h];simp only[rs];refine hK _ _ ⟨?_,rfl⟩;have hm:x ∉ l:=fun hm=>h (List.idxOf_lt_length_iff.2 hm);rw[decide_eq_false hm,decide_eq_false (by omega)]
theorem named_words (s:List UInt8):(!decide (s=Cs.rW)&&!decide (s=Cs.biW)&&!decide (s=Cs.idW)&&!decide (s=Cs.eiW))=!decide (s∈[Cs.rW,Cs.biW,Cs.idW,Cs.eiW]):=by
 rw[Bool.eq_iff_iff];simp only[Bool.and_eq_true,Bool.not_eq_true',decide_eq_false_iff_not,List.mem_cons,List.not_mem_nil,or_false,not_or];exact⟨fun h=>⟨h.1.1.1,h.1.1.2,h.1.2,h.2⟩,fun h=>⟨⟨⟨h.1,h.2.1⟩,h.2.2.1⟩,h.2.2.2⟩⟩
theorem opnamed_ret (s:List UInt8)(w:World)(hs:s.length≤1099511627776):Ret prog 84 #[.string ⟨s.toArray⟩] w (fun v w'=>v=.bool (Cs.named s)∧Below w.heap.size w w'):=by
 refine ret_of fun K hK=>S_ops_named_ok ?_;unfold S_ops_named;have hN:Cs.named s=(decide ((Lx.next s 0).2=0)&&decide ((Lx.next s 0).1.k=5)&&decide ((Lx.next s 0).1.a=0)&&decide ((Lx.next s 0).1.t=s.length)&&!Cs.constant s&&!decide (s∈[Cs.rW,Cs.biW,Cs.idW,Cs.eiW])):=by
  unfold Cs.named;rw[←named_words];simp only[Bool.and_assoc]
 have fin:∀{W:World} {L:List Ent} {q:Bool},Own w W L→q=Cs.named s→K (.returned (.bool q)) W:=fun ho e=>hK _ _ ⟨by rw[e],ho.done⟩;refine c_told (next_ret s 0 w hs) rfl (Own.start w) fun w1 ho=>?_;simp only[tokR,ex];rw[hN] at fin;generalize Lx.next s 0=x at *
 refine o_tok ho fun b3 w2 ho=>?_;refine tk_put 0 ho rfl fun w3 ho=>?_;have ho:Own w w3 [tokE b3 x.1]:=ho;simp only[rs];by_cases e1:x.2=0
 case neg=>
  simp only[ne_eq,e1,not_false_eq_true,decide_true,rs,g_un];exact fin ho (by rw[decide_eq_false e1];rfl)
 simp only[e1,ne_eq,not_true,decide_false,rs,fa_t0,tk_k ho 0 rfl];by_cases e2:x.1.k=5
 case neg=>
  simp only[ne_eq,e2,not_false_eq_true,decide_true,rs,g_un];exact fin ho (by rw[decide_eq_false e2];simp)
 simp only[e2,ne_eq,not_true,decide_false,rs,fa_t1,tk_a ho 0 rfl];by_cases e3:x.1.a=0
 case neg=>
  simp only[ne_eq,e3,not_false_eq_true,decide_true,rs,g_un];exact fin ho (by rw[decide_eq_false e3];simp)
 simp only[e3,ne_eq,not_true,decide_false,rs,fa_t2,tk_t ho 0 rfl,s_len Tryz.underlying9];by_cases e4:x.1.t=(s.length:Int)
 case neg=>
  simp only[ne_eq,e4,not_false_eq_true,decide_true,rs,g_un];exact fin ho (by rw[decide_eq_false e4];simp)
 simp only[e4,ne_eq,not_true,decide_false,rs];refine c_eq (opconst_ret s w3) ?_;cases e5:Cs.constant s with
|true=>
  simp only[rs,Bool.not_true,g_un];exact fin ho (by rw[e5];simp)
|false=>
  simp only[rs,Bool.not_false];refine o_new (fun b=>.slice (some ⟨b,0,none⟩) 4 4) (strsV [Cs.rW,Cs.biW,Cs.idW,Cs.eiW]) 9 (fun _=>by kernel_rfl) ho fun nb w4 ho=>?_;have ho:=ho.toRow 1 4 4 (by rfl) (by omega) (by omega);have hsl:=ho.slRow 0 rfl;refine c_eq (contains4_ret _ [Cs.rW,Cs.biW,Cs.idW,Cs.eiW] s w4 hsl (by simp)) ?_;simp only[rs];exact fin ho (by rw[e5,decide_eq_true e1,decide_eq_true e2,decide_eq_true e3,decide_eq_true e4];simp)
theorem opshown_ret (s:List UInt8)(w:World)(hs:s.length≤1099511627776):Ret prog 83 #[.string ⟨s.toArray⟩] w (fun v w'=>v=.bool (Cs.shown s)∧w=w'):=by
 refine ret_of fun K hK=>S_ops_shown_ok ?_;unfold S_ops_shown;rw[s_len Tryz.underlying9];refine loop (fun vs w'=>∃(i:Nat),vs=[.int .i64 i]∧i≤s.length∧(∀m,m < i→Cs.ends s m=false)∧w=w') (fun vs _=>s.length - n0 vs) ⟨0,rfl,by omega,fun m h=>by omega,rfl⟩ ?_;rintro vs w2 ⟨i,rfl,hi,hlo,rfl⟩ _;simp only[S_ops_shown_0,gd,rs];by_cases hlt:(i:Int) < (s.length:Int)
 ·have hi':i < s.length:=by omega
  simp only[decide_eq_true hlt,i_t];refine c_eq (opends_ret s i w hi' hs) ?_;cases he:Cs.ends s i with
 |true=>
   simp only[i_t];refine hK _ _ ⟨?_,rfl⟩;have:Cs.shown s=false:=by
    unfold Cs.shown;rw[List.all_eq_false];exact⟨i,List.mem_range.2 hi',by simp[he]⟩
   rw[this]
 |false=>
   simp only[i_f,rs];rw[wrap64_id (by omega) (by omega)];refine nextX ⟨i+1,rfl,by omega,fun m hm=>?_,rfl⟩ (by simp[n0,RowKit.intOf];omega);rcases Nat.lt_or_ge m i with h|h
   ·exact hlo m h
   ·have:m=i:=by omega
    subst this;exact he
 ·simp only[decide_eq_false hlt,i_f];refine hK _ _ ⟨?_,rfl⟩;have:Cs.shown s=true:=by
   unfold Cs.shown;rw[List.all_eq_true];intro m hm;rw[List.mem_range] at hm;simp[hlo m (by omega)]
  rw[this]
theorem opform_ret (o:Cop)(va:Value)(acs:List Value)(M:Mem)(w:World)(hM:M.has w)(hx:OpAt M.A M.w o va acs)(hw:o.wt≤1000000000):Ret prog 49 #[opV o va] w (fun v w'=>v=.bool (Cs.form o)∧Below w.heap.size w w'):=by
 refine ret_of fun K hK=>S_ops_form_ok ?_;unfold S_ops_form;have hwt:o.name.length+o.data.length+Ob.wts o.args≤1000000000:=by unfold Cop.wt at hw;omega
 refine o_opb o hx.one (Own.start w) fun b1 w1 ho=>?_;have fin:∀{W:World} {L:List Ent} {q:Bool},Own w W L→q=Cs.form o→K (.returned (.bool q)) W:=fun ho e=>hK _ _ ⟨by rw[e],ho.done⟩;unfold Cs.form at fin;have hMW:M.has w1:=Mem.has_below hM ho.done;rw[fa_p0,op_n ho 0 rfl];simp only[rs];by_cases hb:o.name=[66,73]
 ·rw[if_pos (show o.name=Cs.biW from hb)] at fin;simp only[decide_eq_true hb,i_t];rw[fa_p1,op_a ho 0 rfl,sl_len Tryz.underlying40 (hx.args.now hMW)];simp only[rs];by_cases hl:(o.args.length:Int)=1
  case neg=>
   simp only[decide_eq_false hl,rs,g_un];refine fin ho ?_
   match ha:o.args with
  |[]=>simp
  |[d]=>rw[ha] at hl;simp at hl
  |_::_::_=>simp
  obtain⟨d,hd⟩:∃d,o.args=[d]:=by
   match ha:o.args with
  |[]=>rw[ha] at hl;simp at hl
  |[d]=>exact⟨d,rfl⟩
  |_::_::_=>rw[ha] at hl;simp at hl;omega
  rw[hd] at fin;simp only[decide_eq_true hl,rs,fa_p1,op_a ho 0 rfl];have hsl:=hx.args.now hMW;have hall:=OVs.kept hMW _ _ hx.all;have hkd:DoX prog (mIA 40 va (.int .i64 0)) w1 (pk K)=DoX prog (mIA 40 va (.int .i64 ((0:Nat):Int))) w1 (pk K):=rfl;obtain⟨xk,xc,bi,oi,hdv,hr⟩:=obj_at hx.args hx.all (i:=0) (by rw[hd];simp);have hr1:=hr w1 hMW;have ho0:o.args[0]'(by rw[hd];simp)=d:=by simp[hd]
  rw[ho0] at hr1;refine do_eq hr1.1 |>.mpr ?_;have hq:=hr1.2 0 _ rfl;rw[Nat.add_zero] at hq;rw[fa_o0,l_cell nInt5 hq];simp only[rs];by_cases h7:d.k=7
  case neg=>
   simp only[decide_eq_false h7,rs,g_un];exact fin ho (by simp[h7])
  simp only[decide_eq_true h7,rs,fa_p2,op_d ho 0 rfl];refine c_eq (opshown_ret o.data w1 (by omega)) ?_
  try simp only[rs]
  exact fin ho (by simp[h7])
 ·rw[if_neg (show ¬o.name=Cs.biW from hb)] at fin;simp only[decide_eq_false hb,i_f];rw[fa_p0,op_n ho 0 rfl];refine c_told (opnamed_ret o.name w1 (by omega)) rfl ho fun w2 ho=>?_;cases hn:Cs.named o.name with
 |false=>
   simp only[rs,g_un];exact fin ho (by rw[hn];rfl)
 |true=>
   have hMW:M.has w2:=Mem.has_below hM ho.done;simp only[rs,fa_p1,op_a ho 0 rfl];rw[sl_len Tryz.underlying40 (hx.args.now hMW)];simp only[rs];by_cases hl:(o.args.length:Int)≤32
   ·simp only[decide_eq_true hl,rs,fa_p2,op_d ho 0 rfl]
    try simp only[rs]
    exact fin ho (by rw[hn,decide_eq_true (show o.args.length≤32 by omega)];simp)
   ·simp only[decide_eq_false hl,rs,g_un];exact fin ho (by rw[hn,decide_eq_false (show ¬o.args.length≤32 by omega)];rfl)
theorem opmay_ret (o:Cop)(va:Value)(acs:List Value)(M:Mem)(w:World)(hM:M.has w)(hx:OpAt M.A M.w o va acs)(hw:o.wt≤1000000000):Ret prog 26 #[opV o va] w (fun v w'=>v=.int .i64 (Cs.may o)∧Below w.heap.size w w'):=by
 refine ret_of fun K hK=>S_ops_may_ok ?_;unfold S_ops_may;have hwt:Ob.wts o.args≤1000000000:=by unfold Cop.wt at hw;omega
 have hal:=Ob.len_wts o.args;refine o_opb o hx.one (Own.start w) fun b1 w1 ho=>?_;have fin:∀{W:World} {L:List Ent} {q:Int},Own w W L→q=Cs.may o→K (.returned (.int .i64 q)) W:=fun ho e=>hK _ _ ⟨by rw[e],ho.done⟩;have hMW:∀{W:World} {L:List Ent},Own w W L→M.has W:=fun ho=>Mem.has_below hM ho.done;unfold Cs.may at fin;rw[op_v ho 0 rfl];refine c_told (opform_ret o va acs M w1 (hMW ho) hx hw) rfl ho fun w2 ho=>?_;cases hf:Cs.form o with
|false=>
  simp only[rs,Bool.not_false];exact fin ho (by rw[hf,if_pos rfl])
|true=>
 rw[hf,if_neg (by simp)] at fin;simp only[rs,Bool.not_true];rw[fa_p1,op_a ho 0 rfl,sl_len Tryz.underlying40 (hx.args.now (hMW ho))];have fE:∀(l:List Ob) (i:Nat) (hi:i < l.length),Cs.firstE (l.drop i)=if Vl.check 1 l[i]≠0 then Vl.check 1 l[i] else Cs.firstE (l.drop (i+1)):=fun l i hi=>by rw[List.drop_eq_getElem_cons hi,Cs.firstE]
 refine loop (fun vs w'=>∃(i:Nat),vs=[.int .i64 i]∧i≤o.args.length∧Cs.firstE o.args=Cs.firstE (o.args.drop i)∧Own w w' [opE b1 o va]) (fun vs _=>o.args.length - n0 vs) ⟨0,rfl,by omega,by rw[List.drop_zero],ho⟩ ?_;clear ho;rintro vs w3 ⟨i,rfl,hi,hfe,ho⟩ _;simp only[S_ops_may_0,gd,rs];by_cases hlt:(i:Int) < (o.args.length:Int)
 ·have hi':i < o.args.length:=by omega
  simp only[decide_eq_true hlt,i_t];refine ob_ia (hx.args.now (hMW ho)) (OVs.kept (hMW ho) _ _ hx.all) hi' fun v hv=>?_;have hv0:=hv;obtain⟨xk,xc,xcs,rfl,hxa⟩:=hv.open;have ho3:=ho;refine o_oba ho fun b4 w4 ho=>?_;refine ob_put (o':=o.args[i]) 0 hxa.keys.one hxa.kids.one ho rfl fun w5 ho=>?_;have ho:Own w w5 [obE b4 o.args[i] xk xc,opE b1 o va]:=ho;rw[ob_v ho 0 rfl];have hv5:OV (InW w5) w5 (obV o.args[i] xk xc) o.args[i]:=OV.mono (fun b hb=>Mem.bd (hMW ho) hb) _ _ (OV.kept (kept_of (hMW ho3) (hMW ho)) _ _ hv0);have hkw:=Ob.get_wts o.args i hi';refine c_told (vCheck_ret o.args[i] _ w5 hv5 (by omega)) rfl ho fun w6 ho=>?_;simp only[rs];rw[fE o.args i hi'] at hfe;by_cases hc:Vl.check 1 o.args[i]=0
  ·rw[if_neg (by simp[hc])] at hfe;simp only[hc,ne_eq,not_true,decide_false,i_f];rw[wrap64_id (by omega) (by omega)];exact nextX ⟨i+1,rfl,by omega,hfe,ho.tail⟩ (by simp[n0,RowKit.intOf];omega)
  ·rw[if_pos hc] at hfe;simp only[ne_eq,hc,not_false_eq_true,decide_true,i_t];exact fin ho (by rw[hfe,if_pos hc])
 ·have hil:i=o.args.length:=by omega
  subst hil;rw[List.drop_length,Cs.firstE] at hfe;rw[hfe,if_neg (by simp)] at fin;simp only[decide_eq_false hlt,i_f];rw[fa_p1,op_a ho 0 rfl,sl_len Tryz.underlying40 (hx.args.now (hMW ho))];refine loop (fun vs w'=>∃(i:Nat),vs=[.int .i64 i]∧i≤o.args.length∧o.args.any (fun x=>Cs.refers x||decide (x.k=9))=(o.args.drop i).any (fun x=>Cs.refers x||decide (x.k=9))∧Own w w' [opE b1 o va]) (fun vs _=>o.args.length - n0 vs) ⟨0,rfl,by omega,by rw[List.drop_zero],ho⟩ ?_;clear ho;rintro vs w3 ⟨i,rfl,hi,hany,ho⟩ _;simp only[S_ops_may_1,gd,rs];by_cases hlt:(i:Int) < (o.args.length:Int)
  ·have hi':i < o.args.length:=by omega
   simp only[decide_eq_true hlt,i_t];refine ob_ia (hx.args.now (hMW ho)) (OVs.kept (hMW ho) _ _ hx.all) hi' fun v hv=>?_;have hv0:=hv;obtain⟨xk,xc,xcs,rfl,hxa⟩:=hv.open;have ho3:=ho;refine o_oba ho fun b7 w4 ho=>?_;refine ob_put (o':=o.args[i]) 0 hxa.keys.one hxa.kids.one ho rfl fun w5 ho=>?_;have ho:Own w w5 [obE b7 o.args[i] xk xc,opE b1 o va]:=ho;rw[ob_v ho 0 rfl];have hv5:OV (InW w5) w5 (obV o.args[i] xk xc) o.args[i]:=OV.mono (fun b hb=>Mem.bd (hMW ho) hb) _ _ (OV.kept (kept_of (hMW ho3) (hMW ho)) _ _ hv0);have hkw:=Ob.get_wts o.args i hi';refine c_told (oprefers_ret _ o.args[i] _ w5 (Nat.le_refl _) (by omega) hv5) rfl ho fun w6 ho=>?_;rw[List.drop_eq_getElem_cons hi',List.any_cons] at hany;cases hr:Cs.refers o.args[i] with
  |true=>
    rw[hr] at hany;simp only[rs,g_un];exact fin ho (by rw[hany];rfl)
  |false=>
    rw[hr,Bool.false_or] at hany;simp only[rs,fa_o0,ob_k ho 0 rfl];by_cases h9:o.args[i].k=9
    ·simp only[decide_eq_true h9,rs];exact fin ho (by rw[hany,decide_eq_true h9];rfl)
    ·simp only[decide_eq_false h9,rs];rw[decide_eq_false h9,Bool.false_or] at hany;rw[wrap64_id (by omega) (by omega)];exact nextX ⟨i+1,rfl,by omega,hany,ho.tail⟩ (by simp[n0,RowKit.intOf];omega)
  ·have hil:i=o.args.length:=by omega
   subst hil;rw[List.drop_length] at hany;simp only[decide_eq_false hlt,i_f];exact fin ho (by rw[hany];rfl)
end
end Go.Proofs.YtoofficgclghoaaGreatDoor
