/- A part of the proof. -/
import Derived.Test.YtpgcmnabljandaaGreatDoorPa30
set_option linter.unusedVariables false
set_option linter.unusedSimpArgs false
set_option linter.defProp false
section
namespace Go.Proofs.YtpgcmnabljandaaGreatDoor
open Go Go.Abs
def ka (l:List Var)(s:Str):Int:=qF (fun v=>v.name==s) l 0
def wj (l:List Var)(s:Str):List Int:=if 0<=ka l s then [ka l s] else (List.range (qA l s)).map fun k=>ka l (qH s k)
def zX (l:List Var)(names:List Str):List Int:=names.flatMap (wj l)
def ZE (l:List It):List AV:=[.sl 12 (l.map qK) .none]
def onB (off:List Str)(b:Blc):Bool:=!off.contains b.name
def zr (c:Cls)(off:List Str)(more:List It):List (List It):=((c.blocks.filter (onB off)).map Blc.items)++[more]
def qk5 (d:List Dist)(i:Nat):Bool:=match d[i]? with
 | some x=>(d.take i).any fun y=>y.var==x.var
 | none=>false
def zl (l:List Var)(d:List Dist):Int :=
 if (List.range d.length).any (qk5 d)=true then 8 else if d.any (fun x=>!zW l x.var)=true then 1 else 0
end Go.Proofs.YtpgcmnabljandaaGreatDoor
end
