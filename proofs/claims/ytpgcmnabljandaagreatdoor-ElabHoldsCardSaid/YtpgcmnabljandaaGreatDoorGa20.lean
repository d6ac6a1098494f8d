/- A part of the proof: Walk8 Walk9 Walk17 Walk18 Walk21 Walk20 Walk22 Walk23 Walk16. -/
import Derived.Test.YtpgcmnabljandaaGreatDoorGa19
import Derived.Test.YtpgcmnabljandaaGreatDoorGa18
import Derived.Test.YtpgcmnabljandaaGreatDoorGa16
set_option linter.unusedVariables false
set_option linter.unusedSimpArgs false
set_option maxRecDepth 100000
section
namespace Go.Proofs.YtpgcmnabljandaaGreatDoor
open Go Go.Abs
theorem weight201 (w:Weight):Pure Tryz.prog GG 201 [.agg (encWeight w)] (.bool (weightB w)):=by
 refine Pure.vc mixed Tryz.func201 rfl (by kernel_rfl) ?_
 by_cases c1:w.lo<0
 · have x:weightB w=true:=by simp [weightB,c1]
   rw [x];simp [c1]
 by_cases c2:w.hi<w.lo
 · have x:weightB w=true:=by simp [weightB,c2]
   rw [x];simp [c1,c2]
 by_cases c3:65535<w.hi
 · have x:weightB w=true:=by simp [weightB,c3]
   rw [x];simp [c1,c2,c3]
 by_cases c4:w.weight<0
 · have x:weightB w=true:=by simp [weightB,c4]
   rw [x];simp [c1,c2,c3,c4]
 have x:weightB w=decide (1000<w.weight):=by simp [weightB,c1,c2,c3,c4]
 rw [x];simp [c1,c2,c3,c4]
theorem weights133 (l:List Weight) (hl:Fits l):Pure Tryz.prog GG 133 [.sl 4 (l.map encWeight) .none] (.bool (!l.any weightB)):=by
 refine Pure.vc mixed Tryz.func133 rfl (by kernel_rfl) ?_
 simp
 refine vcCall.call (containsFuncWeight GG l weightB 201 [] [] hl rfl rfl fun v _=>weight201 v) (by simp) ?_
 simp
theorem same132 (x d:Dist):Pure Tryz.prog GG 132 [.agg (encDist x),.rptr (encDist d)] (.bool (x.var==d.var)):=by
 refine Pure.vc mixed Tryz.func132 rfl (by kernel_rfl) ?_
 simp
theorem firstR {f:Nat→Int} {n i:Nat} (hi:i<n) (hz:∀ j,j<i→f j=0) (hf:f i≠0):firstE f (List.range n)=f i :=
 firstE_of (l:=List.range n) (i:=i) (v:=i) (by simp [hi]) (fun a ha=>by
  rw [List.take_range] at ha
  have:=List.mem_range.1 ha
  exact hz a (by omega)) hf
theorem firstR0 {f:Nat→Int} {n:Nat} (hz:∀ j,j<n→f j=0):firstE f (List.range n)=0:=firstE_zero.2 fun a ha=>hz a (List.mem_range.1 ha)
theorem rndS_eq (l:List Var) (i:Int):(decide (0≤i)&&(l[i.toNat]?).any (fun v=>v.mode != 0))=rndS l i:=rfl
set_option maxHeartbeats 4000000 in
theorem dists66 (p:Problem) (hd:Fits p.dists) (hw:∀ d∈p.dists,Fits d.weights):Pure Tryz.prog GG 66 [.agg (encP p)] (.int .i64 (distsS p.vars p.dists)):=by
 refine Pure.vc mixed Tryz.func66 rfl (by kernel_rfl) ?_
 simp
 refine vcLoop.intro (fun n env σ=>∃ i tail,i≤p.dists.length∧n=p.dists.length-i∧env 1=.ptr 0 0∧env 6=.sl 2 (p.dists.map encDist) .none∧env 7=.int .i64 p.dists.length∧env 8=.int .i64 i∧σ=⟨.cells (encP p)::tail,[]⟩∧∀ j,j<i→distE p.vars p.dists j=0) p.dists.length ⟨0,[],by simp⟩ ?_
 rintro n env σ ⟨i,tail,hi,rfl,h1,h6,h7,h8,rfl,hz⟩
 cases hv:p.dists[i]? with
 | some d=>
  obtain⟨hc,hv'⟩:=List.getElem?_eq_some_iff.1 hv
  have hm:=List.mem_of_getElem? hv
  have bad:distE p.vars p.dists i≠0→distsS p.vars p.dists=distE p.vars p.dists i:=fun h=>firstR hc hz h
  have next:distE p.vars p.dists i=0→∀ j,j<i+1→distE p.vars p.dists j=0:=fun h j hj=>by
   rcases Nat.lt_succ_iff_lt_or_eq.1 hj with hj|rfl
   · exact hz j hj
   · exact h
  have hle:i≤p.dists.length:=by omega
  have hle':(i:Int)≤p.dists.length:=by omega
  have hr:=random GG p d.var
  rw [rndS_eq] at hr
  simp only [encP] at hr
  simp [h1,h6,h7,h8,hc,hv',List.set_append]
  refine vcCall.call hr (by simp) ?_
  cases hrn:rndS p.vars d.var
  · have x:distE p.vars p.dists i=1:=by simp [distE,hv,hrn]
    rw [bad (by rw [x];decide),x]
    simp
  · simp [h1,h6,h7,h8,sliceA,boundA,thirdA,sliceTok,hle,hle',List.set_append]
    have hcf:=containsFuncDist GG (p.dists.take i) (fun y=>y.var==d.var) 132 [] [.rptr (encDist d)] (by simp;omega) rfl (by simp) fun y _=>same132 y d
    refine vcCall.lent hcf rfl ?_ ?_
    · have htk:(p.dists.map encDist).take i=(p.dists.take i).map encDist:=List.map_take.symm
      simp [frz,-List.map_take,htk]
    · cases hdp:(p.dists.take i).any fun y=>y.var==d.var
      · by_cases h16:16<d.weights.length
        · have h16':(16:Int)<d.weights.length:=by omega
          have x:distE p.vars p.dists i=2:=by simp only [distE,hv,hrn,hdp,h16];rfl
          rw [bad (by rw [x];decide),x]
          simp [h16',List.set_append]
        · have h16':¬ (16:Int)<d.weights.length:=by omega
          simp [h16',List.set_append]
          refine vcCall.call (weights133 d.weights (hw d hm)) (by simp) ?_
          cases hwt:d.weights.any weightB
          · have x:distE p.vars p.dists i=0:=by simp only [distE,hv,hrn,hdp,h16,hwt];rfl
            simp [h1,h6,h7,h8]
            exact⟨_,by omega,i+1,by omega,rfl,wr (by omega) (by omega),next x⟩
          · have x:distE p.vars p.dists i=1:=by simp only [distE,hv,hrn,hdp,h16,hwt];rfl
            rw [bad (by rw [x];decide),x]
            simp
      · have x:distE p.vars p.dists i=8:=by simp only [distE,hv,hrn,hdp];rfl
        rw [bad (by rw [x];decide),x]
        simp
 | none=>
  have hc:¬ i<p.dists.length:=by simp at hv;omega
  have x:distsS p.vars p.dists=0:=firstR0 fun j hj=>hz j (by omega)
  rw [x]
  simp [h1,h6,h7,h8,hc]
def seenC (n:Nat) (d:List Int):List AV:=(List.range n).map fun (j:Nat)=>AV.bool (decide ((j:Int)∈d))
@[simp] theorem seenC_length {n:Nat} {d:List Int}:(seenC n d).length=n:=by simp [seenC]
theorem seenC_nil {n:Nat}:(List.replicate n [AV.bool false]).flatten=seenC n []:=by
 simp only [seenC,List.not_mem_nil,decide_false]
 induction n with
 | zero=>simp
 | succ n ih=>rw [List.range_succ,List.map_append,← ih,List.replicate_succ'];simp
theorem seenC_get {n j:Nat} {d:List Int} (h:j<n):(seenC n d)[j]?=some (.bool (decide ((j:Int)∈d))):=by simp [seenC,h]
theorem seenC_set {n j:Nat} {d:List Int} (h:j<n):(seenC n d).set j (.bool true)=seenC n (d++[(j:Int)]):=by
 apply List.ext_getElem?
 intro i
 by_cases hi:i<n
 · rw [List.getElem?_set,seenC_get hi,seenC_get hi]
   by_cases hij:j=i
   · subst hij;simp [h]
   · rw [if_neg hij]
     have:¬ (i:Int)=j:=by omega
     simp [this]
 · rw [List.getElem?_eq_none (by simp;omega),List.getElem?_eq_none (by simp;omega)]
theorem flat_split {g:List (List Int)} {i k:Nat} {x:List Int} {v:Int} (hg:g[i]?=some x) (hx:x[k]?=some v) :
 g.flatten=((g.take i).flatten++x.take k)++v::(x.drop (k+1)++(g.drop (i+1)).flatten):=by
 have e1:g=g.take i++x::g.drop (i+1):=by conv=>lhs;rw [← List.take_append_drop i g,drop_cons hg]
 have e2:x=x.take k++v::x.drop (k+1):=by conv=>lhs;rw [← List.take_append_drop k x,drop_cons hx]
 conv=>lhs;rw [e1]
 rw [List.flatten_append,List.flatten_cons]
 conv=>lhs;rw [e2]
 simp
theorem flat_take {g:List (List Int)} {i:Nat} {x:List Int} (hg:g[i]?=some x):(g.take (i+1)).flatten=(g.take i).flatten++x:=by
 rw [List.take_add_one,hg];simp
theorem groups68n (p:Problem) (hv:p.vars=[]) (hg:Fits p.groups):Pure Tryz.prog GG 68 [.agg (encP p)] (.int .i64 (groupsS p.vars p.groups)):=by
 refine Pure.vc mixed Tryz.func68 rfl (by kernel_rfl) ?_
 have hr0:∀ i,rndS p.vars i=false:=fun i=>by simp [rndS,hv]
 have hrv:p.vars.length=0:=by rw [hv];rfl
 simp [makeSliceA,hrv]
 refine vcLoop.intro (fun n env σ=>n=1∧env 1=.ptr 0 0∧env 14=.sl 1 (p.groups.map encInts) .none∧env 15=.int .i64 p.groups.length∧env 16=.int .i64 0∧σ=⟨[.cells (encP p)],[some 0]⟩) 1 ⟨rfl,by simp⟩ ?_
 rintro n env σ ⟨rfl,h1,h14,h15,h16,rfl⟩
 cases hgs:p.groups with
 | nil=>
  have x:groupsS p.vars []=0:=by
   unfold groupsS
   rw [if_pos ⟨by simp,by simp,by simp,fun i hi=>by omega⟩]
  rw [hgs] at h15
  rw [x]
  simp [h1,h14,h15,h16,hrv]
  refine vcLoop.intro (fun n env σ=>n=1∧env 46=.int .i64 0∧env 47=.int .i64 0) 1 ⟨rfl,by simp⟩ ?_
  rintro n env σ ⟨rfl,h46,h47⟩
  simp [h46,h47]
 | cons g r=>
  rw [hgs] at h14 h15
  cases g with
  | nil=>
   have x:groupsS p.vars ([]::r)=1:=by
    unfold groupsS
    rw [if_neg (groups_empty (by simp))]
   rw [x]
   have hp:(0:Int)<r.length+1:=by omega
   simp [h1,h14,h15,h16,hp]
  | cons v g=>
   have x:groupsS p.vars ((v::g)::r)=1:=by
    unfold groupsS
    rw [if_neg (groups_bad (i:=v) (by simp) (hr0 v))]
   rw [x]
   have hp:(0:Int)<r.length+1:=by omega
   have hp2:¬ (g.length:Int)+1=0:=by omega
   simp [h1,h14,h15,h16,hp,hp2]
   refine vcLoop.intro (fun n env σ=>n=1∧env 1=.ptr 0 0∧env 23=.sl 1 ((v::g).map encInt) .none∧env 24=.int .i64 (g.length+1)∧env 25=.int .i64 0∧σ=⟨[.cells (encP p)],[some 0]⟩) 1 ⟨rfl,by simp [h1]⟩ ?_
   rintro n env σ ⟨rfl,h1,h23,h24,h25,rfl⟩
   have hp3:(0:Int)<g.length+1:=by omega
   have hr:=random GG p v
   rw [rndS_eq,hr0] at hr
   simp only [encP] at hr
   simp [h1,h23,h24,h25,hp3]
   refine vcCall.call hr (by simp) ?_
   simp
theorem seenC_nil' {n:Nat}:List.replicate n (AV.bool false)=seenC n []:=by
 rw [← seenC_nil]
 induction n with
 | zero=>rfl
 | succ n ih=>rw [List.replicate_succ,List.replicate_succ,List.flatten_cons,← ih];rfl
def GI (l:List Var) (d:List Int):Prop:=(∀ v∈d,rndS l v=true)∧d.Nodup
theorem GI.add {l:List Var} {d:List Int} {v:Int} (h:GI l d) (hr:rndS l v=true) (hn:v∉d):GI l (d++[v]):=by
 refine⟨fun x hx=>?_,?_⟩
 · rcases List.mem_append.1 hx with hx|hx
   · exact h.1 x hx
   · rw [List.mem_singleton.1 hx];exact hr
 · rw [List.nodup_append]
   refine⟨h.2,by simp,fun a ha b hb e=>?_⟩
   rw [List.mem_singleton.1 hb] at e
   exact hn (e▸ha)
def NE (g:List (List Int)):Prop:=∀ x∈g,x≠[]
theorem take1_drop {c:List AV} {j:Nat} {v:AV} (h:c[j]?=some v):(c.drop j).take 1=[v]:=by
 rw [drop_cons h];rfl
set_option maxHeartbeats 4000000 in
theorem groups68y (p:Problem) (hv:p.vars≠[]) (hv20:p.vars.length≤1000) (hg:Fits p.groups) (hgs:∀ g∈p.groups,Fits g):Pure Tryz.prog GG 68 [.agg (encP p)] (.int .i64 (groupsS p.vars p.groups)):=by
 refine Pure.vc mixed Tryz.func68 rfl (by kernel_rfl) ?_
 have hn0:0<p.vars.length:=List.length_pos_iff.2 hv
 obtain⟨N,hN⟩:∃ N,N=p.vars.length:=⟨_,rfl⟩
 have hc1:(N:Int)≤1073741824:=by omega
 have hc2:¬ (N:Int)=0:=by omega
 have hc3:¬ N=0:=by omega
 have rnd:∀ i,Pure Tryz.prog GG 83 [.agg [.sl 4 (p.vars.map encVar) .none,.sl 4 (p.hard.map encE) .none,.sl 4 (p.soft.map encE) .none,.sl 2 (p.dists.map encDist) .none,.sl 1 (p.groups.map encInts) .none],.int .i64 i] (.bool (rndS p.vars i)):=fun i=>by
  have hr:=random GG p i
  rw [rndS_eq] at hr
  simpa only [encP] using hr
 have bad:¬ GroupsOk p.vars p.groups→groupsS p.vars p.groups=1:=fun h=>by unfold groupsS;rw [if_neg h]
 simp [makeSliceA,← hN,hc1,hc2,hc3,seenC_nil']
 refine vcLoop.intro (fun n env σ=>∃ i,i≤p.groups.length∧n=p.groups.length-i∧env 1=.ptr 0 0∧env 3=.ms 1 0 N 1∧env 14=.sl 1 (p.groups.map encInts) .none∧env 15=.int .i64 p.groups.length∧env 16=.int .i64 i∧σ=⟨[.cells (encP p),.cells (seenC N (p.groups.take i).flatten)],[]⟩∧NE (p.groups.take i)∧GI p.vars (p.groups.take i).flatten) p.groups.length ⟨0,by simp,by simp,by simp,by simp,by simp,by simp,by simp,by simp,by simp [NE],by simp [GI]⟩ ?_
 rintro n env σ ⟨i,hi,rfl,h1,h3,h14,h15,h16,rfl,hne,hgi0⟩
 cases hgi:p.groups[i]? with
 | some g=>
  obtain⟨hc,hv'⟩:=List.getElem?_eq_some_iff.1 hgi
  have hm:=List.mem_of_getElem? hgi
  have hfg:=hgs g hm
  have hiw:IntKind.i64.wrap ((i:Int)+1)=((i+1:Nat):Int):=by rw [wr (by omega) (by omega)];omega
  by_cases hge:g=[]
  · rw [bad (groups_empty (hge▸hm))]
    subst hge
    simp [h1,h3,h14,h15,h16,hc,hv']
  · have hgl:¬ (g.length:Int)=0:=by have:=List.length_pos_iff.2 hge;omega
    have hgl':¬ g.length=0:=by have:=List.length_pos_iff.2 hge;omega
    simp [h1,h3,h14,h15,h16,hc,hv',hgl,hgl',hge]
    refine vcLoop.intro (fun n env σ=>∃ k,k≤g.length∧n=g.length-k∧env 1=.ptr 0 0∧env 3=.ms 1 0 N 1∧env 14=.sl 1 (p.groups.map encInts) .none∧env 15=.int .i64 p.groups.length∧env 16=.int .i64 i∧env 23=.sl 1 (g.map encInt) .none∧env 24=.int .i64 g.length∧env 25=.int .i64 k∧σ=⟨[.cells (encP p),.cells (seenC N ((p.groups.take i).flatten++g.take k))],[]⟩∧GI p.vars ((p.groups.take i).flatten++g.take k)) g.length ⟨0,by simp [h1,h3,h14,h15,h16];exact hgi0⟩ ?_
    clear h1 h3 h14 h15 h16
    rintro n env σ ⟨k,hk,rfl,h1,h3,h14,h15,h16,h23,h24,h25,rfl,hgi1⟩
    cases hvk:g[k]? with
    | some v=>
     obtain⟨hck,hvk'⟩:=List.getElem?_eq_some_iff.1 hvk
     have hsp:=flat_split hgi hvk
     have hmv:v∈p.groups.flatten:=by rw [hsp];simp
     simp [h1,h3,h14,h15,h16,h23,h24,h25,hck,hvk']
     refine vcCall.call (rnd v) (by simp) ?_
     cases hr:rndS p.vars v
     · rw [bad (groups_bad hmv hr)]
       simp
     · obtain⟨r1,r2⟩:=rndS_range hr
       obtain⟨j,rfl⟩:=Int.eq_ofNat_of_zero_le r1
       have hj:j<N:=by omega
       have hj':(j:Int)<N:=by omega
       have hg1:=seenC_get (d:=(p.groups.take i).flatten++g.take k) hj
       have hset:=seenC_set (d:=(p.groups.take i).flatten++g.take k) hj
       have htk:g.take (k+1)=g.take k++[(j:Int)]:=by rw [List.take_add_one,hvk];rfl
       have hj1:j+1≤N:=hj
       by_cases hmem:(j:Int)∈(p.groups.take i).flatten++g.take k
       · rw [bad (groups_dup hsp hmem)]
         rw [decide_eq_true hmem] at hg1
         have ht1:=take1_drop hg1
         simp [h1,h3,h14,h15,h16,h23,h24,h25,hj,hj',hj1,ht1]
       · rw [decide_eq_false hmem] at hg1
         have ht1:=take1_drop hg1
         simp [h1,h3,h14,h15,h16,h23,h24,h25,hj,hj',hj1,ht1,hset]
         refine⟨_,by omega,k+1,by omega,rfl,wr (by omega) (by omega),?_,?_⟩
         · rw [htk]
         · rw [htk,← List.append_assoc];exact hgi1.add hr hmem
    | none=>
     have hck:¬ k<g.length:=by simp at hvk;omega
     have ht:g.take k=g:=List.take_of_length_le (by omega)
     rw [ht] at hgi1
     have hft:=flat_take hgi
     simp [h1,h3,h14,h15,h16,h23,h24,h25,hck,hiw]
     refine⟨_,by omega,i+1,by omega,rfl,rfl,?_,?_,?_⟩
     · rw [hft,ht]
     · intro x hx
       rw [List.take_add_one,hgi] at hx
       rcases List.mem_append.1 hx with hx|hx
       · exact hne x hx
       · simp at hx;rw [hx];exact hge
     · rw [hft];exact hgi1
 | none=>
  have hc:¬ i<p.groups.length:=by simp at hgi;omega
  have ht:p.groups.take i=p.groups:=List.take_of_length_le (by omega)
  rw [ht] at hne hgi0
  simp [h1,h3,h14,h15,h16,hc]
  refine vcLoop.intro (fun n env σ=>∃ i,i≤N∧n=N-i∧env 1=.ptr 0 0∧env 3=.ms 1 0 N 1∧env 46=.int .i64 N∧env 47=.int .i64 i∧σ=⟨[.cells (encP p),.cells (seenC N p.groups.flatten)],[]⟩∧∀ j:Nat,j<i→rndS p.vars j=true→(j:Int)∈p.groups.flatten) N ⟨0,by simp [h1,h3,← hN,ht]⟩ ?_
  clear h1 h3 h14 h15 h16
  rintro n env σ ⟨j,hj0,rfl,h1,h3,h46,h47,rfl,hall⟩
  by_cases hj:j<N
  · have hj':(j:Int)<N:=by omega
    have hj1:j+1≤N:=hj
    have hg1:=seenC_get (d:=p.groups.flatten) hj
    simp [h1,h3,h46,h47,hj]
    refine vcCall.call (rnd j) (by simp) ?_
    cases hr:rndS p.vars j
    · simp [h1,h3,h46,h47]
      refine⟨_,by omega,j+1,by omega,rfl,wr (by omega) (by omega),?_⟩
      intro q hq hqr
      rcases Nat.lt_succ_iff_lt_or_eq.1 hq with hq|rfl
      · have:=hall q hq hqr;simpa using this
      · rw [hr] at hqr;cases hqr
    · by_cases hmem:(j:Int)∈p.groups.flatten
      · rw [decide_eq_true hmem] at hg1
        have ht1:=take1_drop hg1
        simp [h1,h3,h46,h47,hj,hj',hj1,ht1]
        refine⟨_,by omega,j+1,by omega,rfl,wr (by omega) (by omega),?_⟩
        intro q hq hqr
        rcases Nat.lt_succ_iff_lt_or_eq.1 hq with hq|rfl
        · have:=hall q hq hqr;simpa using this
        · simpa using hmem
      · rw [bad (groups_left (by omega) hr hmem)]
        rw [decide_eq_false hmem] at hg1
        have ht1:=take1_drop hg1
        simp [h1,h3,h46,h47,hj,hj',hj1,ht1]
  · have x:groupsS p.vars p.groups=0:=by
     unfold groupsS
     rw [if_pos ⟨hne,hgi0.1,hgi0.2,fun q hq hqr=>hall q (by omega) hqr⟩]
    rw [x]
    simp [h1,h3,h46,h47,hj]
theorem groups68 (p:Problem) (hv20:p.vars.length≤1000) (hg:Fits p.groups) (hgs:∀ g∈p.groups,Fits g):Pure Tryz.prog GG 68 [.agg (encP p)] (.int .i64 (groupsS p.vars p.groups)):=by
 by_cases hv:p.vars=[]
 · exact groups68n p hv hg
 · exact groups68y p hv hv20 hg hgs
def oM:Opts:=⟨true,[],[],[]⟩
@[simp] theorem oM_mu:oM.mu=true:=rfl
@[simp] theorem oM_lw:oM.lw=[]:=rfl
theorem grow197 (n:Nat) (hn:n≤1000000) (σ:St):ACall Tryz.prog GG 197 [.sl 0 [] .nil,.int .i64 n] σ (fun r σ'=>(n=0∧r=.sl 0 [] .nil∧σ'=σ)∨(0<n∧r=.ms σ.H.length 0 0 4∧∃ c,σ'=σ.push (.cells c))):=by
 refine ACall.vcO oM mixed Tryz.func197 rfl (by kernel_rfl) ?_
 have h1:¬ (n:Int)<0:=by omega
 have hw:IntKind.i64.wrap (n:Int)=n:=wr (by omega) (by omega)
 have w0:IntKind.i64.wrap 0=0:=by decide
 by_cases h0:n=0
 · subst h0
   simp [capA,w0]
 · have h2:(0:Int)<n:=by omega
   have h3:0<n:=by omega
   have h4:(n:Int)≤1073741824:=by omega
   simp [capA,h1,hw,w0,h2,h3,h4,sliceA,boundA,thirdA,sliceTok,appendX,appendM,plainTD]
def CR (T R:List Ex) (v:AV) (σ:St):Prop:=(T=[]∧v=.sl 0 [] .nil)∨∃ b c,v=.ms b 0 R.length 4∧σ.H[b]?=some (.cells c)∧R.length*4≤c.length∧c.take (R.length*4)=(R.map encE).flatten
@[simp] theorem encE_len21 (e:Ex):(encE e).length=4:=by rw [encE_eq];rfl
theorem flat_len:∀ (l:List Ex),((l.map encE).flatten).length=l.length*4
 | []=>rfl
 | a::r=>by simp only [List.map_cons,List.flatten_cons,List.length_append,encE_len21,flat_len r,List.length_cons];omega
theorem chunk_flat:∀ (R:List Ex) (c:List AV),R.length*4≤c.length→c.take (R.length*4)=(R.map encE).flatten→chunk 4 R.length c=R.map encE
 | [],c,_,_=>rfl
 | a::r,c,hl,h=>by
  have e1:c.take 4=encE a:=by
   have:=congrArg (List.take 4) h
   rw [List.take_take,List.map_cons,List.flatten_cons,List.take_left' (encE_len21 a)] at this
   rw [← this]
   congr 1
   simp only [List.length_cons];omega
  have e2:(c.drop 4).take (r.length*4)=(r.map encE).flatten:=by
   have:=congrArg (List.drop 4) h
   rw [List.map_cons,List.flatten_cons,List.drop_left' (encE_len21 a),List.drop_take] at this
   rw [← this]
   congr 1
   simp only [List.length_cons];omega
  rw [List.length_cons,chunk,e1,chunk_flat r (c.drop 4) (by simp only [List.length_drop,List.length_cons] at hl ⊢;omega) e2,List.map_cons]
theorem app_step {T R X:List Ex} {b:Nat} {c:List AV} {σ:St} (hb:σ.H[b]?=some (.cells c)) (hl:R.length*4≤c.length) (h:c.take (R.length*4)=(R.map encE).flatten) (hR:R.length+X.length≤1000000) :
 ∃ v' σ',appendX (Dof Tryz.prog) σ 32 32 (.ms b 0 R.length 4) (.sl 4 (X.map encE) .none)=some (v',σ')∧CR T (R++X) v' σ':=by
 cases X with
 | nil=>
  refine⟨.ms b 0 R.length 4,σ,?_,.inr ⟨b,c,by simp,hb,by simpa using hl,by simpa using h⟩⟩
  simp [appendX,appendM,plainTD,srcA]
 | cons x X=>
  refine⟨.ms σ.H.length 0 (R.length+(X.length+1)) 4,{ σ with H:=σ.H.set b .dead++[.cells (c.take (R.length*4)++((x::X).map encE).flatten)] },?_,.inr ⟨σ.H.length,c.take (R.length*4)++((x::X).map encE).flatten,by simp,by simp,?_,?_⟩⟩
  · have h1:R.length+(X.length+1)≤1073741824:=by simp at hR;omega
    simp [appendX,appendM,plainTD,srcA,hb,h1,hl]
  · rw [h];simp only [List.length_append,flat_len];omega
  · rw [h,List.take_of_length_le (by simp only [List.length_append,flat_len];omega),List.map_append,List.flatten_append]
theorem concat127 (h s:List Ex) (hh:h.length≤10000) (hs:s.length≤10000):Pure Tryz.prog GG 127 [.sl 1 [[.sl 4 (h.map encE) .none],[.sl 4 (s.map encE) .none]] .none] (.sl 4 ((h++s).map encE) .none):=by
 refine Pure.vcO oM false mixed Tryz.func127 rfl (by kernel_rfl) ?_
 have w1:IntKind.i64.wrap (h.length:Int)=h.length:=wr (by omega) (by omega)
 have w2:IntKind.i64.wrap ((h.length:Int)+s.length)=h.length+s.length:=wr (by omega) (by omega)
 have n1:¬ (h.length:Int)<0:=by omega
 have n2:¬ (h.length:Int)+s.length<0:=by omega
 have wi:IntKind.i64.wrap 1=1:=by decide
 have wi2:IntKind.i64.wrap 2=2:=by decide
 simp
 refine vcLoop.intro (fun n env σ=>∃ i:Nat,i≤2∧n=2-i∧env 0=.sl 1 [[.sl 4 (h.map encE) .none],[.sl 4 (s.map encE) .none]] .none∧env 3=.int .i64 (if i=0 then 0 else if i=1 then h.length else h.length+s.length)∧env 9=.sl 1 [[.sl 4 (h.map encE) .none],[.sl 4 (s.map encE) .none]] .none∧env 10=.int .i64 2∧env 11=.int .i64 i∧σ=⟨[],[]⟩) 2 ⟨0,by simp⟩ ?_
 rintro n env σ ⟨i,hi,rfl,h0,h3,h9,h10,h11,rfl⟩
 have hcase:i=0∨i=1∨i=2:=by omega
 rcases hcase with rfl|rfl|rfl
 · simp [h0,h3,h9,h10,h11,w1,n1,wi]
   exact⟨1,by omega,1,by omega,rfl,rfl,rfl⟩
 · simp [h0,h3,h9,h10,h11,w2,n2,wi2]
   exact⟨2,by omega,by omega,rfl,rfl⟩
 · have hN:((h.length:Int)+s.length)=((h.length+s.length:Nat):Int):=by omega
   simp [h0,h3,h9,h10,h11]
   rw [hN]
   refine ACall.imp (grow197 (h.length+s.length) (by omega) ⟨[],[]⟩) ?_
   intro r σ' hr
   have hcr:CR (h++s) [] r σ':=by
    rcases hr with ⟨h1,h2,h3⟩|⟨h1,h2,c,h3⟩
    · exact .inl ⟨List.eq_nil_of_length_eq_zero (by rw [List.length_append];exact h1),h2⟩
    · subst h3
      exact .inr ⟨0,c,h2,rfl,by simp,by simp⟩
   clear hr
   refine vcLoop.intro (fun n env σ=>∃ i:Nat,i≤2∧n=2-i∧env 25=.sl 1 [[.sl 4 (h.map encE) .none],[.sl 4 (s.map encE) .none]] .none∧env 26=.int .i64 2∧env 27=.int .i64 i∧CR (h++s) (if i=0 then [] else if i=1 then h else h++s) (env 6) σ) 2 ⟨0,by simp [h0];exact hcr⟩ ?_
   clear h0 h3 h9 h10 h11 hcr
   rintro n env σ ⟨i,hi,rfl,h25,h26,h27,hcr⟩
   have hcase:i=0∨i=1∨i=2:=by omega
   rcases hcase with rfl|rfl|rfl
   · simp only [if_true] at hcr
     rcases hcr with ⟨ht,h6⟩|⟨b,c,h6,hb,hl,hc⟩
     · simp only [List.append_eq_nil_iff] at ht
       obtain⟨rfl,rfl⟩:=ht
       simp [h25,h26,h27,h6,wi,appendX,appendM,appendA,plainTD,srcA,rowsOf]
       exact⟨1,by omega,1,by omega,rfl,rfl,.inl ⟨rfl,rfl⟩⟩
     · obtain⟨v',σ',e1,e2⟩:=app_step (T:=h++s) (X:=h) hb hl hc (by simp;omega)
       simp only [List.length_nil] at h6 e1
       simp [h25,h26,h27,h6,wi,e1]
       exact⟨1,by omega,1,by omega,rfl,rfl,by simpa using e2⟩
   · simp only [Nat.one_ne_zero,if_false,if_true] at hcr
     rcases hcr with ⟨ht,h6⟩|⟨b,c,h6,hb,hl,hc⟩
     · simp only [List.append_eq_nil_iff] at ht
       obtain⟨rfl,rfl⟩:=ht
       simp [h25,h26,h27,h6,wi2,appendX,appendM,appendA,plainTD,srcA,rowsOf]
       exact⟨2,by omega,by omega,rfl,.inl ⟨rfl,rfl⟩⟩
     · obtain⟨v',σ',e1,e2⟩:=app_step (T:=h++s) (X:=s) hb hl hc (by omega)
       simp [h25,h26,h27,h6,wi2,e1]
       exact⟨2,by omega,by omega,rfl,by simpa using e2⟩
   · simp only [show ¬ (2:Nat)=0 by omega,show ¬ (2:Nat)=1 by omega,if_false] at hcr
     rcases hcr with ⟨ht,h6⟩|⟨b,c,h6,hb,hl,hc⟩
     · simp only [List.append_eq_nil_iff] at ht
       obtain⟨rfl,rfl⟩:=ht
       simp [h25,h26,h27,h6]
     · have hk:=chunk_flat (h++s) c hl hc
       simp only [List.length_append] at hk hl
       rw [List.length_append] at h6
       simp [h25,h26,h27,h6,hb,hl,hk,noRefss_append]
theorem foreign131 (p:Problem) (s:Str) (hl:Fits p.vars):Pure Tryz.prog GG 131 [.str s,.rptr (encP p)] (.bool (!hasV p.vars s)):=by
 refine Pure.vc mixed Tryz.func131 rfl (by kernel_rfl) ?_
 simp
 refine vcCall.call (index GG p.vars s hl) (by simp) ?_
 have:=findI_neg (fun v:Var=>v.name==s) p.vars
 simp [this,hasV]
set_option maxHeartbeats 4000000 in
theorem exprs64 (p:Problem) (hl:Fits p.vars) (hh:p.hard.length≤10000) (hs:p.soft.length≤10000) (hw:∀ e∈p.hard++p.soft,Wen e∧hgt e≤1000∧(pre e).length≤100000) :
 Pure Tryz.prog GG 64 [.agg (encP p)] (.int .i64 (firstE (exprE p.vars) (p.hard++p.soft))):=by
 refine Pure.vc mixed Tryz.func64 rfl (by kernel_rfl) ?_
 simp [buildSliceA,rowsFill]
 obtain⟨L,hL⟩:∃ L,L=p.hard++p.soft:=⟨_,rfl⟩
 have hlen:L.length≤20000:=by rw [hL,List.length_append];omega
 refine vcCall.less (concat127 p.hard p.soft hh hs) (by simp) (by simp [Leq]) ?_
 rw [← hL] at hw ⊢
 simp
 refine vcLoop.intro (fun n env σ=>∃ i tail,i≤L.length∧n=L.length-i∧env 1=.ptr 0 0∧env 11=.sl 4 (L.map encE) .none∧env 12=.int .i64 L.length∧env 13=.int .i64 i∧σ=⟨.cells (encP p)::tail,[]⟩∧∀ e∈L.take i,exprE p.vars e=0) L.length ⟨0,[],by simp⟩ ?_
 rintro n env σ ⟨i,tail,hi,rfl,h1,h11,h12,h13,rfl,hz⟩
 cases hv:L[i]? with
 | some e=>
  obtain⟨hc,hv'⟩:=List.getElem?_eq_some_iff.1 hv
  have hm:=List.mem_of_getElem? hv
  obtain⟨hwe,hh1,hp1⟩:=hw e hm
  have bad:exprE p.vars e≠0→firstE (exprE p.vars) L=exprE p.vars e:=fun h=>firstE_of hv hz h
  simp [h1,h11,h12,h13,hc,hv',encE_eq e,List.set_append]
  rw [← encE_eq e]
  refine vcCall.call (valid88 e hwe (by omega)) (by simp) ?_
  by_cases h0:validE e=0
  · simp [h0,h1,h11,h12,h13,encE_eq e,List.set_append]
    rw [← encE_eq e]
    refine vcCall.call (arrays128 e hwe hp1) (by simp) ?_
    have hab:=arrB_names (e:=e)
    cases ha:arrB e
    · rw [ha] at hab
      have hlz:(namesS [3,24] e).length=0:=by have:=of_decide_eq_false hab;omega
      have hnil:=List.eq_nil_of_length_eq_zero hlz
      simp [hnil,h1,h11,h12,h13,encE_eq e,List.set_append]
      rw [← encE_eq e]
      refine vcCall.call (names130 e hwe hp1) (by simp) ?_
      try simp [h1,h11,h12,h13]
      have hfn:Fits (namesS [2] e):=by
       have:∀ (l:List Ex) (s:List Str),(l.foldl (addN [2]) s).length≤s.length+l.length:=by
        intro l
        induction l with
        | nil=>intro s;simp
        | cons a r ih=>intro s;have:=ih (addN [2] s a);have:=addN_length (ops:=[2]) (s:=s) (e:=a);simp only [List.foldl_cons,List.length_cons];omega
       have:=this (pre e) []
       simp only [Fits,namesS,List.length_nil] at this ⊢
       omega
      refine vcCall.lent (containsFuncStr GG (namesS [2] e) (fun s=>!hasV p.vars s) 131 [] [.rptr (encP p)] hfn rfl (by simp) fun s _=>foreign131 p s hl) rfl ?_ ?_
      · simp [frz]
      · rw [forB_names]
        cases hf:forB p.vars e
        · have x:exprE p.vars e=0:=by simp only [exprE,h0,ha,hf];rfl
          simp [h1,h11,h12,h13]
          exact⟨_,by omega,i+1,by omega,rfl,wr (by omega) (by omega),take_succ_all hv hz x⟩
        · have x:exprE p.vars e=7:=by simp only [exprE,h0,ha,hf];rfl
          rw [bad (by rw [x];decide),x]
          simp
    · rw [ha] at hab
      have hlz:0<(namesS [3,24] e).length:=of_decide_eq_true hab
      have x:exprE p.vars e=9:=by simp only [exprE,h0,ha];rfl
      rw [bad (by rw [x];decide),x]
      simp [hlz]
  · have x:exprE p.vars e=validE e:=by simp only [exprE];rw [if_pos h0]
    rw [bad (by rw [x];exact h0),x]
    simp [h0]
 | none=>
  have hc:¬ i<L.length:=by simp at hv;omega
  have ht:L.take i=L:=List.take_of_length_le (by omega)
  rw [ht] at hz
  rw [firstE_zero.2 hz]
  simp [h1,h11,h12,h13,hc]
def cntC (n:Nat) (d:List Int):List AV:=(List.range n).map fun (j:Nat)=>AV.int .i64 (d.count (j:Int))
@[simp] theorem cntC_length {n:Nat} {d:List Int}:(cntC n d).length=n:=by simp [cntC]
theorem cntC_nil {n:Nat}:List.replicate n (AV.int .i64 0)=cntC n []:=by
 simp only [cntC,List.count_nil]
 induction n with
 | zero=>simp
 | succ n ih=>rw [List.range_succ,List.map_append,← ih,List.replicate_succ'];simp
end Go.Proofs.YtpgcmnabljandaaGreatDoor
end
