/- A verified evaluator for the program, part Rd of this claim. -/
import Derived.Test.YtgmhmcnogmojaaaAPl2
set_option linter.unusedSimpArgs false
set_option linter.unusedVariables false
namespace Go.Proofs.Ytgmhmcnogmojaaa.Ra
open Go
def coinsS:ByteArray:=⟨#[114,101,99,111,114,100,32,52,32,110,10,114,101,99,111,114,100,32,49,50,32,83,48,48,10,102,117,110,99,32,50,32,110,32,58,32,83,48,48,32,58,32,58,10,109,111,118,101,32,48,10,112,97,99,107,32,48,10,114,101,116,10,102,117,110,99,32,50,32,83,48,48,32,58,32,58,32,58,10,109,111,118,101,32,48,10,112,97,99,107,32,49,10,109,101,10,107,101,101,112,32,49,10,114,101,116,10,102,117,110,99,32,50,32,111,32,110,32,58,32,58,32,58,32,49,10,109,101,10,115,101,101,119,32,49,10,102,105,101,108,100,32,48,32,49,10,102,105,101,108,100,32,48,32,48,10,112,101,101,107,10,99,111,112,121,32,49,10,115,117,98,10,119,114,105,116,101,10,99,111,112,121,32,48,10,115,101,101,119,32,49,10,102,105,101,108,100,32,48,32,49,10,102,105,101,108,100,32,48,32,48,10,112,101,101,107,10,99,111,112,121,32,49,10,97,100,100,10,119,114,105,116,101,10,114,101,116,10,102,117,110,99,32,50,32,111,32,58,32,110,32,58,32,58,32,49,10,99,111,112,121,32,48,10,104,97,115,32,49,10,122,101,114,111,32,56,10,99,111,112,121,32,48,10,115,101,101,32,49,10,102,105,101,108,100,32,48,32,49,10,102,105,101,108,100,32,48,32,48,10,114,101,97,100,10,114,101,116,10,110,117,109,32,48,10,114,101,116,10]⟩
def aS:T:=.st [.sl [.st [.int 4,.sl [.str ⟨#[110]⟩]],.st [.int 12,.sl [.str ⟨#[83,48,48]⟩]]],.sl [.st [.int 2,.sl [.str ⟨#[110]⟩],.sl [.str ⟨#[83,48,48]⟩],.sl [],.sl [],.sl [.st [.str ⟨#[109,111,118,101]⟩,.int 0,.int 0],.st [.str ⟨#[112,97,99,107]⟩,.int 0,.int 0],.st [.str ⟨#[114,101,116]⟩,.int 0,.int 0]]],.st [.int 2,.sl [.str ⟨#[83,48,48]⟩],.sl [],.sl [],.sl [],.sl [.st [.str ⟨#[109,111,118,101]⟩,.int 0,.int 0],.st [.str ⟨#[112,97,99,107]⟩,.int 1,.int 0],.st [.str ⟨#[109,101]⟩,.int 0,.int 0],.st [.str ⟨#[107,101,101,112]⟩,.int 1,.int 0],.st [.str ⟨#[114,101,116]⟩,.int 0,.int 0]]],.st [.int 2,.sl [.str ⟨#[111]⟩,.str ⟨#[110]⟩],.sl [],.sl [],.sl [.int 1],.sl [.st [.str ⟨#[109,101]⟩,.int 0,.int 0],.st [.str ⟨#[115,101,101,119]⟩,.int 1,.int 0],.st [.str ⟨#[102,105,101,108,100]⟩,.int 0,.int 1],.st [.str ⟨#[102,105,101,108,100]⟩,.int 0,.int 0],.st [.str ⟨#[112,101,101,107]⟩,.int 0,.int 0],.st [.str ⟨#[99,111,112,121]⟩,.int 1,.int 0],.st [.str ⟨#[115,117,98]⟩,.int 0,.int 0],.st [.str ⟨#[119,114,105,116,101]⟩,.int 0,.int 0],.st [.str ⟨#[99,111,112,121]⟩,.int 0,.int 0],.st [.str ⟨#[115,101,101,119]⟩,.int 1,.int 0],.st [.str ⟨#[102,105,101,108,100]⟩,.int 0,.int 1],.st [.str ⟨#[102,105,101,108,100]⟩,.int 0,.int 0],.st [.str ⟨#[112,101,101,107]⟩,.int 0,.int 0],.st [.str ⟨#[99,111,112,121]⟩,.int 1,.int 0],.st [.str ⟨#[97,100,100]⟩,.int 0,.int 0],.st [.str ⟨#[119,114,105,116,101]⟩,.int 0,.int 0],.st [.str ⟨#[114,101,116]⟩,.int 0,.int 0]]],.st [.int 2,.sl [.str ⟨#[111]⟩],.sl [.str ⟨#[110]⟩],.sl [],.sl [.int 1],.sl [.st [.str ⟨#[99,111,112,121]⟩,.int 0,.int 0],.st [.str ⟨#[104,97,115]⟩,.int 1,.int 0],.st [.str ⟨#[122,101,114,111]⟩,.int 8,.int 0],.st [.str ⟨#[99,111,112,121]⟩,.int 0,.int 0],.st [.str ⟨#[115,101,101]⟩,.int 1,.int 0],.st [.str ⟨#[102,105,101,108,100]⟩,.int 0,.int 1],.st [.str ⟨#[102,105,101,108,100]⟩,.int 0,.int 0],.st [.str ⟨#[114,101,97,100]⟩,.int 0,.int 0],.st [.str ⟨#[114,101,116]⟩,.int 0,.int 0],.st [.str ⟨#[110,117,109]⟩,.int 0,.int 0],.st [.str ⟨#[114,101,116]⟩,.int 0,.int 0]]]],.sl []]
def gamesS:ByteArray:=⟨#[114,101,99,111,114,100,32,49,50,32,110,32,98,10,114,101,99,111,114,100,32,51,32,110,10,102,117,110,99,32,50,32,110,32,58,32,58,32,58,10,109,111,118,101,32,48,10,116,114,117,101,10,112,97,99,107,32,48,10,109,101,10,107,101,101,112,32,48,10,114,101,116,10,102,117,110,99,32,50,32,58,32,110,32,58,32,58,32,48,10,109,101,10,116,97,107,101,32,48,10,117,110,112,97,99,107,32,48,10,100,114,111,112,10,114,101,116,10,102,117,110,99,32,50,32,111,32,58,32,58,32,33,110,32,58,32,48,10,109,111,118,101,32,48,10,115,101,101,119,32,48,10,102,105,101,108,100,32,48,32,48,10,112,117,116,32,49,10,109,111,118,101,32,49,10,112,101,101,107,10,110,117,109,32,49,10,97,100,100,10,119,114,105,116,101,10,114,101,116,10,102,117,110,99,32,50,32,110,32,111,32,58,32,98,32,58,32,58,10,109,101,10,99,111,112,121,32,49,10,99,111,112,121,32,48,10,99,97,108,108,32,48,32,50,10,109,111,118,101,32,49,10,115,97,109,101,10,114,101,116,10]⟩
def bJ:List T:=[.str ⟨#[114,101,99,111,114,100,32,52,32,110]⟩,.str ⟨#[114,101,99,111,114,100,32,49,50,32,83,48,48]⟩,.str ⟨#[102,117,110,99,32,50,32,110,32,58,32,83,48,48,32,58,32,58]⟩,.str ⟨#[109,111,118,101,32,48]⟩,.str ⟨#[112,97,99,107,32,48]⟩,.str ⟨#[114,101,116]⟩,.str ⟨#[102,117,110,99,32,50,32,83,48,48,32,58,32,58,32,58]⟩,.str ⟨#[109,111,118,101,32,48]⟩,.str ⟨#[112,97,99,107,32,49]⟩,.str ⟨#[109,101]⟩,.str ⟨#[107,101,101,112,32,49]⟩,.str ⟨#[114,101,116]⟩,.str ⟨#[102,117,110,99,32,50,32,111,32,110,32,58,32,58,32,58,32,49]⟩,.str ⟨#[109,101]⟩,.str ⟨#[115,101,101,119,32,49]⟩,.str ⟨#[102,105,101,108,100,32,48,32,49]⟩,.str ⟨#[102,105,101,108,100,32,48,32,48]⟩,.str ⟨#[112,101,101,107]⟩,.str ⟨#[99,111,112,121,32,49]⟩,.str ⟨#[115,117,98]⟩,.str ⟨#[119,114,105,116,101]⟩,.str ⟨#[99,111,112,121,32,48]⟩,.str ⟨#[115,101,101,119,32,49]⟩,.str ⟨#[102,105,101,108,100,32,48,32,49]⟩,.str ⟨#[102,105,101,108,100,32,48,32,48]⟩,.str ⟨#[112,101,101,107]⟩,.str ⟨#[99,111,112,121,32,49]⟩,.str ⟨#[97,100,100]⟩,.str ⟨#[119,114,105,116,101]⟩,.str ⟨#[114,101,116]⟩,.str ⟨#[102,117,110,99,32,50,32,111,32,58,32,110,32,58,32,58,32,49]⟩,.str ⟨#[99,111,112,121,32,48]⟩,.str ⟨#[104,97,115,32,49]⟩,.str ⟨#[122,101,114,111,32,56]⟩,.str ⟨#[99,111,112,121,32,48]⟩,.str ⟨#[115,101,101,32,49]⟩,.str ⟨#[102,105,101,108,100,32,48,32,49]⟩,.str ⟨#[102,105,101,108,100,32,48,32,48]⟩,.str ⟨#[114,101,97,100]⟩,.str ⟨#[114,101,116]⟩,.str ⟨#[110,117,109,32,48]⟩,.str ⟨#[114,101,116]⟩]
def cf:List T:=[.str ⟨#[114,101,99,111,114,100,32,49,50,32,110,32,98]⟩,.str ⟨#[114,101,99,111,114,100,32,51,32,110]⟩,.str ⟨#[102,117,110,99,32,50,32,110,32,58,32,58,32,58]⟩,.str ⟨#[109,111,118,101,32,48]⟩,.str ⟨#[116,114,117,101]⟩,.str ⟨#[112,97,99,107,32,48]⟩,.str ⟨#[109,101]⟩,.str ⟨#[107,101,101,112,32,48]⟩,.str ⟨#[114,101,116]⟩,.str ⟨#[102,117,110,99,32,50,32,58,32,110,32,58,32,58,32,48]⟩,.str ⟨#[109,101]⟩,.str ⟨#[116,97,107,101,32,48]⟩,.str ⟨#[117,110,112,97,99,107,32,48]⟩,.str ⟨#[100,114,111,112]⟩,.str ⟨#[114,101,116]⟩,.str ⟨#[102,117,110,99,32,50,32,111,32,58,32,58,32,33,110,32,58,32,48]⟩,.str ⟨#[109,111,118,101,32,48]⟩,.str ⟨#[115,101,101,119,32,48]⟩,.str ⟨#[102,105,101,108,100,32,48,32,48]⟩,.str ⟨#[112,117,116,32,49]⟩,.str ⟨#[109,111,118,101,32,49]⟩,.str ⟨#[112,101,101,107]⟩,.str ⟨#[110,117,109,32,49]⟩,.str ⟨#[97,100,100]⟩,.str ⟨#[119,114,105,116,101]⟩,.str ⟨#[114,101,116]⟩,.str ⟨#[102,117,110,99,32,50,32,110,32,111,32,58,32,98,32,58,32,58]⟩,.str ⟨#[109,101]⟩,.str ⟨#[99,111,112,121,32,49]⟩,.str ⟨#[99,111,112,121,32,48]⟩,.str ⟨#[99,97,108,108,32,48,32,50]⟩,.str ⟨#[109,111,118,101,32,49]⟩,.str ⟨#[115,97,109,101]⟩,.str ⟨#[114,101,116]⟩]
def aU:T:=.st [.sl [.st [.int 12,.sl [.str ⟨#[110]⟩,.str ⟨#[98]⟩]],.st [.int 3,.sl [.str ⟨#[110]⟩]]],.sl [.st [.int 2,.sl [.str ⟨#[110]⟩],.sl [],.sl [],.sl [],.sl [.st [.str ⟨#[109,111,118,101]⟩,.int 0,.int 0],.st [.str ⟨#[116,114,117,101]⟩,.int 0,.int 0],.st [.str ⟨#[112,97,99,107]⟩,.int 0,.int 0],.st [.str ⟨#[109,101]⟩,.int 0,.int 0],.st [.str ⟨#[107,101,101,112]⟩,.int 0,.int 0],.st [.str ⟨#[114,101,116]⟩,.int 0,.int 0]]],.st [.int 2,.sl [],.sl [.str ⟨#[110]⟩],.sl [],.sl [.int 0],.sl [.st [.str ⟨#[109,101]⟩,.int 0,.int 0],.st [.str ⟨#[116,97,107,101]⟩,.int 0,.int 0],.st [.str ⟨#[117,110,112,97,99,107]⟩,.int 0,.int 0],.st [.str ⟨#[100,114,111,112]⟩,.int 0,.int 0],.st [.str ⟨#[114,101,116]⟩,.int 0,.int 0]]],.st [.int 2,.sl [.str ⟨#[111]⟩],.sl [],.sl [.str ⟨#[33,110]⟩],.sl [.int 0],.sl [.st [.str ⟨#[109,111,118,101]⟩,.int 0,.int 0],.st [.str ⟨#[115,101,101,119]⟩,.int 0,.int 0],.st [.str ⟨#[102,105,101,108,100]⟩,.int 0,.int 0],.st [.str ⟨#[112,117,116]⟩,.int 1,.int 0],.st [.str ⟨#[109,111,118,101]⟩,.int 1,.int 0],.st [.str ⟨#[112,101,101,107]⟩,.int 0,.int 0],.st [.str ⟨#[110,117,109]⟩,.int 1,.int 0],.st [.str ⟨#[97,100,100]⟩,.int 0,.int 0],.st [.str ⟨#[119,114,105,116,101]⟩,.int 0,.int 0],.st [.str ⟨#[114,101,116]⟩,.int 0,.int 0]]],.st [.int 2,.sl [.str ⟨#[110]⟩,.str ⟨#[111]⟩],.sl [.str ⟨#[98]⟩],.sl [],.sl [],.sl [.st [.str ⟨#[109,101]⟩,.int 0,.int 0],.st [.str ⟨#[99,111,112,121]⟩,.int 1,.int 0],.st [.str ⟨#[99,111,112,121]⟩,.int 0,.int 0],.st [.str ⟨#[99,97,108,108]⟩,.int 0,.int 2],.st [.str ⟨#[109,111,118,101]⟩,.int 1,.int 0],.st [.str ⟨#[115,97,109,101]⟩,.int 0,.int 0],.st [.str ⟨#[114,101,116]⟩,.int 0,.int 0]]]],.sl []]
def strB (n:Nat) (t:T):Bool:=match t with | .str s=>decide (s.size≤n) | _=>false
def tyvB (ks:List T) (t:T):Bool:=match t with | .str s=>cK ks s | _=>false
def numB (t:T):Bool:=match t with | .int _=>true | _=>false
def recvB (ks:List T) (m k:Nat):Bool:=match ((T.sl ks).nth m).nth k with
 | .st [.int a,.sl fs]=>decide (0≤a)&&decide (a≤15)&&decide (fs.length≤3)&&fs.all fun x=>match x with | .str s=>eV ks m k s | _=>false
 | _=>false
def rec4B (t:T):Bool:=match t with
 | .st [.int a,.sl fs]=>decide (-1≤a)&&decide (a≤16)&&decide (fs.length≤4)&&fs.all (strB 9)
 | _=>false
def fnvB (ks:List T) (g:T):Bool:=match g with
 | .st [.int _,.sl ags,.sl rs,.sl ls,.sl tk,.sl cd]=>decide (ags.length≤10)&&decide (rs.length≤10)&&decide (ls.length≤10)&&decide (tk.length≤10)&&decide (cd.length≤1000)&&decide (1≤cd.length)&&ags.all (tyvB ks)&&rs.all (tyvB ks)&&ls.all (tyvB ks)&&tk.all numB&&cd.all insR
 | _=>false
def modB (ks:List T) (t:T):Bool:=match t with
 | .st [.sl rs,.sl fs,.sl fr]=>decide (rs.length≤3)&&decide (fs.length≤10)&&decide (fr.length≤10)&&fr.all numB&&rs.all rec4B&&fs.all (fnvB ks)
 | _=>false
def kokB (ks:List T):Bool:=decide (ks.length≤3)&&(List.range ks.length).all fun m=>decide (((T.sl ks).nth m).es.length≤3)&&(List.range ((T.sl ks).nth m).es.length).all fun k=>recvB ks m k
theorem recv_of {ks:List T} {m k:Nat} (h:recvB ks m k=true):pP ks m k:=by
 unfold recvB at h
 split at h
 ·rename_i a fs e
  simp only[Bool.and_eq_true,decide_eq_true_eq,List.all_eq_true] at h
  refine ⟨a,fs,e,h.1.1.1,h.1.1.2,h.1.2,fun x hx=>?_⟩
  have:=h.2 x hx
  split at this
  ·exact ⟨_,rfl,this⟩
  ·cases this
 ·cases h
theorem rec4_of {t:T} (h:rec4B t=true):hM 4 t:=by
 unfold rec4B at h
 split at h
 ·rename_i a fs
  simp only[Bool.and_eq_true,decide_eq_true_eq,List.all_eq_true] at h
  refine ⟨a,fs,rfl,h.1.1.1,h.1.1.2,h.1.2,fun x hx=>?_⟩
  have:=h.2 x hx
  unfold strB at this
  split at this
  ·exact ⟨_,rfl,of_decide_eq_true this⟩
  ·cases this
 ·cases h
theorem xf {ks xs:List T} (h : ∀x∈xs,tyvB ks x=true):dL ks xs:=fun x hx=>by
 have:=h x hx
 unfold tyvB at this
 split at this
 ·exact ⟨_,rfl,this⟩
 ·cases this
theorem uD {xs:List T} (h : ∀x∈xs,numB x=true):cz xs:=fun x hx=>by
 have:=h x hx
 unfold numB at this
 split at this
 ·exact ⟨_,rfl⟩
 ·cases this
theorem za {ks:List T} {g:T} (h:fnvB ks g=true):FnV ks g∧FnC g:=by
 unfold fnvB at h
 split at h
 ·rename_i n ags rs ls tk cd
  simp only[Bool.and_eq_true,decide_eq_true_eq,List.all_eq_true] at h
  obtain ⟨⟨⟨⟨⟨⟨⟨⟨⟨⟨h1,h2⟩,h3⟩,h4⟩,h5⟩,h6⟩,h7⟩,h8⟩,h9⟩,h10⟩,h11⟩:=h
  exact ⟨⟨n,ags,rs,ls,tk,cd,rfl,h1,h2,h3,h4,h5,xf h7,xf h8,xf h9,uD h10,fun x hx=>xM (h11 x hx)⟩,h6⟩
 ·cases h
theorem zw {ks:List T} {x:T} (h:modB ks x=true):oH ks x∧kW BB x∧∀g∈(x.fld 1).es,FnC g:=by
 unfold modB at h
 split at h
 ·rename_i rs fs fr
  simp only[Bool.and_eq_true,decide_eq_true_eq,List.all_eq_true] at h
  obtain ⟨⟨⟨⟨⟨h1,h2⟩,h3⟩,h4⟩,h5⟩,h6⟩:=h
  refine ⟨⟨rs,fs,fr,rfl,by omega,by omega,uD h4,fun g hg=>(za (h6 g hg)).1⟩,.mk ⟨rs,rfl,by rw[BBv];omega,fun x hx=>zL (rec4_of (h5 x hx))⟩ (by rw[BBv];omega) (fun g hg=>fn_is (za (h6 g hg)).1) (by rw[BBv];omega) (uD h4),fun g hg=>(za (h6 g hg)).2⟩
 ·cases h
theorem kok_of {ks:List T} (h:kokB ks=true):KOk ks:=by
 unfold kokB at h
 simp only[Bool.and_eq_true,decide_eq_true_eq,List.all_eq_true,List.mem_range] at h
 exact ⟨h.1,fun m hm=>⟨(h.2 m hm).1,fun k hk=>recv_of ((h.2 m hm).2 k hk)⟩⟩
theorem sh_of {ms:List T} (h:(decide (ms.length≤3)&&kokB (aY ms)&&ms.all (modB (aY ms)))=true):ShV ms:=by
 simp only[Bool.and_eq_true,decide_eq_true_eq,List.all_eq_true] at h
 exact ⟨h.1.1,kok_of h.1.2,fun x hx=>(zw (h.2 x hx)).1,fun x hx=>(zw (h.2 x hx)).2.1,fun x hx=>(zw (h.2 x hx)).2.2⟩
theorem yR:ShV [aS]:=sh_of (by kernel_rfl)
theorem zb:ShV [aS,aU]:=sh_of (by kernel_rfl)
theorem BC:kW BB aS:=yR.2.2.2.1 _ (by simp)
theorem BP:kW BB aU:=zb.2.2.2.1 _ (by simp)
theorem run_ok {f:Nat} {ts r:List T} (n:Nat) (h : ∀k,cl env (k+n) f ts=some r):YP (fun k=>cl env k f ts) (fun o=>o=r):=
 ⟨r,⟨n,fun k hk=>by obtain ⟨j,rfl⟩ : ∃j,k=j+n:=⟨k - n,by omega⟩;exact h j⟩,rfl⟩
theorem coins_ok:YP (fun k=>cl env k qy []) (fun o=>o = [.str coinsS]):=run_ok 40 (fun k=>by kernel_rfl)
theorem games_ok:YP (fun k=>cl env k ml []) (fun o=>o = [.str gamesS]):=run_ok 40 (fun k=>by kernel_rfl)
def aQ (m:T) (r f c:Nat):T:=.st [.sl ((m.fld 0).es.take r),.sl ((m.fld 1).es.take (f - 1)++match f with | 0=>[] | f+1=>[.st (((m.fld 1).nth f).fs.set 5 (.sl ((((m.fld 1).nth f).fld 5).es.take c)))]),.sl []]
inductive vd:List T→T→T→Prop
 | nil (m:T):vd [] m m
 | cons {l m m' m2:T} {ls:List T} : (∀k,cl env (k+120) aI [m,l]=some [m',.bool true])→T.st [m'.fld 0,m'.fld 1,m'.fld 2]=m'→vd ls m' m2→vd (l :: ls) m m2
theorem Cg {s:ByteArray} {xs:List T} {m2 z:T} (hl:xs.length≤1000) (ht : ∀k,cl env (k+120) eA [m2]=some [.str s]) : ∀{todo ys:List T} {m:T},vd todo m m2→xs=ys++todo→T.st [m.fld 0,m.fld 1,m.fld 2]=m→
  Yields (fun k=>eK (Ra.hl env k cn) (cl env k) (.str s) (.bool true) (.int (ys.length:Int)) z m (.sl xs)) [m2,.bool true]:=by
 intro todo ys m hr
 induction hr generalizing ys with
 | nil m=>
  intro hx hm
  unfold eK
  simp only[rt0,rt1,rt2,af,ag,aq,ar,au,aj,aw,az,aA,aB,aC,aD,ak,ah,am,ap,ti,tb,tS,te,tf,Int.toNat_natCast]
  simp only[hm]
  refine Yields.ff (decide_eq_false (by rw[hx];simp)) (Yields.ff rfl ?_)
  refine Yields.obind (r1:=[.str s]) ⟨120,fun k hk=>by obtain ⟨j,rfl⟩ : ∃j,k=j+120:=⟨k - 120,by omega⟩;exact ht j⟩ ?_
  simp only[rt0,rt1,rt2,af,ag,aq,ar,au,aj,aw,az,aA,aB,aC,aD,ak,ah,am,ap,ti,tb,tS,te,tf,Int.toNat_natCast]
  exact Yields.ff (by simp) (Yields.some _)
 | @cons l m m' m2 ls h1 h2 h3 ih=>
  intro hx hm
  have hlt:ys.length < xs.length:=by rw[hx];simp
  have en:(T.sl xs).nth ys.length=l:=by rw[bh hlt];simp[hx]
  have ew:IntKind.wrap .i64 ((ys.length:Int)+1)=((ys ++ [l]).length:Int):=by rw[bf (by omega) (by omega)];simp
  unfold eK
  simp only[rt0,rt1,rt2,af,ag,aq,ar,au,aj,aw,az,aA,aB,aC,aD,ak,ah,am,ap,ti,tb,tS,te,tf,Int.toNat_natCast]
  simp only[hm,en,ew]
  refine Yields.tt (decide_eq_true (by omega)) (Yields.tt rfl (Yields.tt (by ((repeat' (first | refine aL ?_ ?_ | refine decide_eq_true ?_)) <;> omega)) ?_))
  refine Yields.obind (r1:=[m',.bool true]) ⟨120,fun k hk=>by obtain ⟨j,rfl⟩ : ∃j,k=j+120:=⟨k - 120,by omega⟩;exact h1 j⟩ ?_
  simp only[rt0,rt1,rt2,af,ag,aq,ar,au,aj,aw,az,aA,aB,aC,aD,ak,ah,am,ap,ti,tb,tS,te,tf,Int.toNat_natCast]
  simp only[h2]
  exact sr _ _ _ _ _ _ (ih ht (by rw[hx];simp) h2)
theorem zK {s:ByteArray} {xs:List T} {m2:T} (hs:s.size≤4000) (hl:xs.length≤1000) (h1 : ∀k,cl env (k+500) qZ [.str s]=some [.sl xs,.bool true]) (ht : ∀k,cl env (k+120) eA [m2]=some [.str s])
  (h:vd xs (.st [.sl [],.sl [],.sl []]) m2) (h3:T.st [m2.fld 0,m2.fld 1,m2.fld 2]=m2):YP (fun k=>cl env k eN [.str s]) (fun o=>o = [m2]):=by
 refine YP.of (r:=[m2]) ?_ rfl
 refine xw _ ?_
 unfold ny
 refine Yields.obind (r1:=[m2,.bool true]) ?_ ?_
 ·refine tU _ ?_
  unfold kz
  simp only[rt0,rt1,rt2,af,ag,aq,ar,au,aj,aw,az,aA,aB,aC,aD,ak,ah,am,ap,ti,tb,tS,te,tf,Int.toNat_natCast]
  refine Yields.ff (decide_eq_false (by omega)) ?_
  refine Yields.obind (r1:=[.sl xs,.bool true]) ⟨500,fun k hk=>by obtain ⟨j,rfl⟩ : ∃j,k=j+500:=⟨k - 500,by omega⟩;exact h1 j⟩ ?_
  simp only[rt0,rt1,rt2,af,ag,aq,ar,au,aj,aw,az,aA,aB,aC,aD,ak,ah,am,ap,ti,tb,tS,te,tf,Int.toNat_natCast]
  exact sq _ _ _ _ _ _ (Cg hl ht (ys:=[]) h rfl rfl)
 ·simp only[rt0,rt1,rt2,af,ag,aq,ar,au,aj,aw,az,aA,aB,aC,aD,ak,ah,am,ap,ti,tb,tS,te,tf,Int.toNat_natCast]
  simp only[h3]
  exact Yields.some _
end Go.Proofs.Ytgmhmcnogmojaaa.Ra
