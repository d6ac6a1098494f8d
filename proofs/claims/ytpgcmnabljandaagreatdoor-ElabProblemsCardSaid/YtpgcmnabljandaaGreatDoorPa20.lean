/- A part of the proof. -/
import Derived.Test.YtpgcmnabljandaaGreatDoorPa09
import Derived.Test.YtpgcmnabljandaaGreatDoorPa19
set_option linter.unusedVariables false
set_option linter.unusedSimpArgs false
set_option linter.defProp false
attribute [local simp] Go.Abs.acells Go.Abs.fin Go.Abs.zh Go.Abs.ze Go.Abs.pl1 Go.Abs.plain Go.Abs.pl2 Go.Abs.AV.atom
section
namespace Go.Abs
open Go Go.RowKit
section
section
variable {P:Program}{G:Nat->AV}{o:Opts}{c:Code}{env:Env}{O:St}{Q:Exit->Env->St->Prop}{α:Type}
theorem qC.list (l:List α)(J:List α->Env->St->Prop)(h0:J [] env O)
 (hs:∀ d v r env O,l=d++v::r->l[d.length]?=some v->d.length<l.length->J d env O->vcC P G o c env O (vW (J (d++[v])) Q))
 (he:∀ env O,J l env O->vcC P G o c env O (vW (fun _ _=>False) Q)) (hp:yi c=true:=by rfl):qC P G o c env O Q:=by
 refine qC.intro (fun n ev O=>∃ d r,l=d++r/\n=r.length/\J d ev O) l.length ⟨[],l,rfl,rfl,h0⟩ ?_;rintro n ev O ⟨d,r,hl,rfl,hJ⟩
 cases r with
 | nil=>
  rw[qrl]at hl;subst hl;exact kc c hp (fun e env O h=>wh (fun _ _ h=>h.elim) (fun _ _ _ h=>h) e env O h) (he ev O hJ)
 | cons v r=>
  refine kc c hp (fun e env O h=>wh (fun env O h=>?_) (fun _ _ _ h=>h) e env O h) (hs d v r ev O hl (by rw[hl];simp) (by rw[hl];simp) hJ);exact⟨r.length,by simp,d++[v],r,by rw[hl];simp,rfl,h⟩
theorem qC.count (n:Nat)(J:Nat->Env->St->Prop)(h0:J 0 env O)
 (hs:∀ i env O,i<n->J i env O->vcC P G o c env O (vW (J (i+1)) Q))
 (he:∀ env O,J n env O->vcC P G o c env O (vW (fun _ _=>False) Q)) (hp:yi c=true:=by rfl):qC P G o c env O Q:=by
 refine qC.intro (fun m ev O=>∃ i,i<=n/\m=n-i/\J i ev O) n ⟨0,by omega,by omega,h0⟩ ?_;rintro m ev O ⟨i,hi,rfl,hJ⟩;by_cases hn:i=n
 . subst hn;exact kc c hp (fun e env O h=>wh (fun _ _ h=>h.elim) (fun _ _ _ h=>h) e env O h) (he ev O hJ)
 . refine kc c hp (fun e env O h=>wh (fun env O h=>?_) (fun _ _ _ h=>h) e env O h) (hs i ev O (by omega) hJ);exact⟨n-(i+1),by omega,i+1,by omega,rfl,h⟩
end
def ye {α:Type}(sz:Nat)(en:α->List AV)(t:Nat)(s:List α):AV:=match s with
 | []=>.sl 0 [] .nil
 | a::r=>.sl sz ((a::r).map en) (.chain t (r.length+1))
def zG {α:Type}(T:List (Option Nat))(s:List α):List (Option Nat):=match s with
 | []=>T
 | _::r=>T++[some (r.length+1)]
section
variable {α:Type}{sz t:Nat}{en:α->List AV}{T:List (Option Nat)}{s m:List α}
@[simp]theorem qmS:ye sz en t ([]:List α)=.sl 0 [] .nil:=rfl
@[simp]theorem qjY:zG T ([]:List α)=T:=rfl
theorem qaV (h:s≠[]):ye sz en t s=.sl sz (s.map en) (.chain t s.length):=by
 cases s with
 | nil=>exact absurd rfl h
 | cons a r=>rfl
theorem qgg (h:s≠[]):zG T s=T++[some s.length]:=by
 cases s with
 | nil=>exact absurd rfl h
 | cons a r=>rfl
theorem zq {D:Nat->Option TI}{H:List Blk}{ty e:Nat}{i j:TI}{tok:Tok}(hi:D ty=some i)(hd:i.d=.sl e)(hj:D e=some j)(hsz:j.size=sz)(h0:0<sz)(hz:j.zero.length=sz)(hb:j.bytes<=65536)(hlen:s.length+m.length<=1073741824)(sz2:Nat)(h2:sz2=sz\/m=[]) :
 qt D ⟨H,zG T s⟩ ty (ye sz en T.length s) (.sl sz2 (m.map en) tok)=some (ye sz en T.length (s++m),⟨H,zG T (s++m)⟩):=by
 subst hsz;by_cases hm:m=[]
 . subst hm;rw[qrl]
   cases s with
   | nil=>simp[qt,hi,hd,hj,h0,hz,hb,zD]
   | cons a r=>
    have:r.length+1<=1073741824:=by simpa using hlen
    simp[qt,hi,hd,hj,h0,hz,hb,zD,ye,zG,this]
 . have h2:sz2=j.size:=h2.resolve_right hm;subst h2
   cases s with
   | nil=>
    have:m.length<=1073741824:=by simpa using hlen
    simp[qt,hi,hd,hj,h0,hz,hb,zD,qgg hm,qaV hm,this,hm]
   | cons a r=>
    have:r.length+1+m.length<=1073741824:=by simpa using hlen
    simp only[qrd,ye,zG];simp[qt,hi,hd,hj,h0,hz,hb,zD,this,hm];omega
@[simp high]theorem outC_atom:AV.atom (ye sz en t s)=true:=by cases s<;>rfl
@[simp high]theorem qpT:acells (ye sz en t s)=some [ye sz en t s]:=by cases s<;>rfl
def qiD {α:Type}(sz:Nat)(en:α->List AV)(s:List α):AV:=match s with
 | []=>.sl 0 [] .nil
 | a::r=>.sl sz ((a::r).map en) .none
@[simp high]theorem fin1_outC {H:List Blk}:ze H (ye sz en t s)=qiD sz en s:=by cases s<;>rfl
@[simp high]theorem fin2_outC {H:List Blk}:zh H (ye sz en t s)=qiD sz en s:=by cases s<;>rfl
@[simp high]theorem fin_outC {H:List Blk}:fin H (ye sz en t s)=qiD sz en s:=by cases s<;>rfl
@[simp high]theorem noRef_outR (hn:∀ x,qu (en x)=true):zg (qiD sz en s)=true:=by
 cases s with
 | nil=>rfl
 | cons a r=>simpa[qiD] using qS hn (a::r)
theorem Qh:Leq (qiD sz en s) (.sl sz (s.map en) .none):=by
 cases s with
 | nil=>simp[qiD,Leq]
 | cons a r=>exact Leq.sl rfl
@[simp high]theorem leq_outR':Leq (qiD sz en s) (.sl sz (s.map en) .none)=True:=eq_true Qh
end
end
end Go.Abs
end
