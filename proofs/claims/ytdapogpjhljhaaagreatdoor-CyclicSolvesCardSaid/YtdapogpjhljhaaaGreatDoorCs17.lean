import Derived.Test.YtdapogpjhljhaaaGreatDoorCs05
set_option maxRecDepth 100000
set_option linter.all false
set_option linter.defProp false

